/- the reference's writers: lists; the reference: texts compared -/
import Derived.Test.YtlaeldgebecppaaGreatPL33
import Derived.Test.YtlaeldgebecppaaGreatPL25
namespace Go.Proofs.YtlaeldgebecppaaGreat.Wi
open Go Go.RowKit Go.Aw Go.Aw.Cart Go.Proofs.YtlaeldgebecppaaGreat.Ca
set_option linter.unusedVariables false
set_option linter.unusedSimpArgs false
set_option maxRecDepth 8000
set_option maxHeartbeats 4000000
/-- a keyed cart that can be written -/
structure KdW (k : Kd) : Prop where
  key : okB k.1
  len : k.1.length ≤ 20
  vec : vecOk k.2.1
  few : k.2.2.length ≤ 400
  ent : ∀ e ∈ k.2.2, entOk e
theorem textB_le (b : List Nat) : (textB b).length ≤ b.length + 9 := by
  unfold textB
  rw [List.length_append]
  have := numB_le b.length
  omega
theorem cartB_le (c : Crt) : (cartB c).length ≤ 9 * c.1.length + 9 + 36 * c.2.length := by
  unfold cartB
  simp only [List.length_append]
  have h1 := vecB_le c.1
  have h2 := numB_le c.2.length
  have h3 := entsB_le c.2
  omega
theorem kdB_take {l : List Kd} {i : Nat} (h : i < l.length) : (l.take (i + 1)).flatMap kdB = (l.take i).flatMap kdB ++ kdB (l.getD i default) := flat_take kdB h
theorem kdW_le {k : Kd} (h : KdW k) : (kdB k).length ≤ 20000 := by
  unfold kdB
  rw [List.length_append]
  have h1 := textB_le k.1
  have h2 := cartB_le k.2
  have h3 := h.vec.1
  have h4 := h.few
  have h5 := h.len
  omega
theorem kdsW_le : ∀ {l : List Kd}, (∀ k ∈ l, KdW k) → (l.flatMap kdB).length ≤ 20000 * l.length
  | [], _ => Nat.le_refl _
  | k :: l, h => by
    rw [List.flatMap_cons, List.length_append, List.length_cons]
    have h1 := kdW_le (h k List.mem_cons_self)
    have h2 := kdsW_le fun e he => h e (List.mem_cons_of_mem _ he)
    omega
theorem refWriteAll_w (l : List Kd) (ex : Bool) (hl : l.length ≤ 2000) (hk : ∀ k ∈ l, KdW k) : PCall Tryz.prog 33 [.p (.sl 10 (l.map kR) ex)] (.p (.sl 1 ((listB l).map bR) false)) := by
  refine pcall_of Tryz.func33 rfl (fun w0 F S0 M0 => ?_)
  have hw : IntKind.u64.wrap (l.length : Int) = (l.length : Int) := u64_in (by omega)
  haveI : ∀ c k : Nat, OC Tryz.prog 97 [.p (.k .u64 (l.length : Int))] [] [(c, k)] True (.o (.osl c (k + 1) 1 0 (numB l.length).length)) [(c, (k + 2, some (.buf 5 1 ((numB l.length).map bR))))] := fun c k => ⟨fun _ => (refNum_o l.length (by omega)).fresh1 c k⟩
  have hnl := numB_le l.length
  unfold listB
  generalize numB l.length = N at *
  open W9 in
  repeat' (first | refine rnC ?_ | refine rnSB ?_ | refine rnG ?_ | refine rnU ?_ | ((fail_if_success (refine rnKn ?_)); refine rnP ?_ ?_ <;> (intro hq; try (have hq' := hq; simp only [hqs] at hq'))) | refine rkC ?_ | refine rkSB ?_ | refine rkF ?_ | refine rkU ?_ | ((fail_if_success (refine rkKn ?_)); refine rkP ?_ ?_ <;> (intro hq; try (have hq' := hq; simp only [hqs] at hq'))) | refine stp ?_ | refine ifT ?_ | refine ifF ?_ | (refine ifQ ?_ ?_ <;> (try (intro hn))) | (refine ifB ?_ ?_ <;> (intro hq; try (have hq' := hq; simp only [hqs] at hq'))))
  refine aws_loopS [3, 4, 9, 10, 11, 12, 13, 14, 15, 16, 17, 18, 19, 20, 21, 22, 23, 24, 25, 26, 27, 28, 29, 30] [8] (fun (x : Nat × Nat × List Nat) => [(4, .p (.i x.1)), (3, .o (.osl 8 x.2.1 1 0 x.2.2.length))]) (fun x => [(8, (x.2.1 + 1, some (.buf 5 1 (x.2.2.map bR))))]) (fun x => x.1 ≤ l.length ∧ x.2.2 = N ++ (l.take x.1).flatMap kdB) (fun x => l.length - x.1) (0, 1, N) ⟨Nat.zero_le _, (List.append_nil _).symm⟩ (by exact knA) (by exact knA) ?_
  rintro ⟨i, g, out⟩ β γ ⟨hi, ho⟩
  dsimp only at hi ho ⊢
  have hol : out.length ≤ 50000000 := by
    have := kdsW_le (l := l.take i) fun k h => hk k (List.mem_of_mem_take h)
    rw [ho, List.length_append]
    rw [List.length_take] at this
    omega
  by_cases hil : i < l.length
  · have d1 : decide ((i : Int) < (l.length : Int)) = true := decide_eq_true (by omega)
    have hs := kdB_take hil
    rw [show l.getD i default = l.getD (i : Int).toNat default by rw [Int.toNat_natCast]] at hs
    have hW : KdW (l.getD (i : Int).toNat default) := hk _ (by rw [Int.toNat_natCast, List.getD_eq_getElem?_getD, List.getElem?_eq_getElem hil]; exact List.getElem_mem _)
    have okk := hW.key
    have l20 := hW.len
    haveI n1 : PC Tryz.prog 98 [.p (.sl 1 ((l.getD (i : Int).toNat default).1.map bR) false)] True (.p (.sl 1 ((textB (l.getD (i : Int).toNat default).1).map bR) false)) := ⟨fun _ => refText_w _ (by omega)⟩
    haveI n2 : PC Tryz.prog 99 [cV (l.getD (i : Int).toNat default).2.1 (l.getD (i : Int).toNat default).2.2 false] True (.p (.sl 1 ((cartB ((l.getD (i : Int).toNat default).2.1, (l.getD (i : Int).toNat default).2.2)).map bR) false)) := ⟨fun _ => refWrite_w _ _ false hW.vec hW.few hW.ent⟩
    have q1 := textB_le (l.getD (i : Int).toNat default).1
    have q2 := cartB_le ((l.getD (i : Int).toNat default).2.1, (l.getD (i : Int).toNat default).2.2)
    have q3 := hW.vec.1
    have q4 := hW.few
    dsimp only at q2
    rw [show kdB (l.getD (i : Int).toNat default) = textB (l.getD (i : Int).toNat default).1 ++ cartB ((l.getD (i : Int).toNat default).2.1, (l.getD (i : Int).toNat default).2.2) from rfl] at hs
    generalize textB (l.getD (i : Int).toNat default).1 = N1 at *
    generalize cartB ((l.getD (i : Int).toNat default).2.1, (l.getD (i : Int).toNat default).2.2) = N2 at *
    clear hW
    open W9 in
    repeat' (first | refine rnC ?_ | refine rnSB ?_ | refine rnG ?_ | refine rnU ?_ | ((fail_if_success (refine rnKn ?_)); refine rnP ?_ ?_ <;> (intro hq; try (have hq' := hq; simp only [hqs] at hq'))) | refine rkC ?_ | refine rkSB ?_ | refine rkF ?_ | refine rkU ?_ | ((fail_if_success (refine rkKn ?_)); refine rkP ?_ ?_ <;> (intro hq; try (have hq' := hq; simp only [hqs] at hq'))) | refine stp ?_ | refine ifT ?_ | refine ifF ?_ | (refine ifQ ?_ ?_ <;> (try (intro hn))) | (refine ifB ?_ ?_ <;> (intro hq; try (have hq' := hq; simp only [hqs] at hq'))))
    refine aws_draws [(8, 8), (15, 8)] mixed (by kernel_rfl) ?_
    open W9 in
    repeat' (first | refine rk_nil ?_ | refine rkC ?_ | refine rkSB ?_ | refine rkF ?_ | refine rkU ?_ | ((fail_if_success (refine rkKn ?_)); refine rkP ?_ ?_ <;> (intro hq; try (have hq' := hq; simp only [hqs] at hq'))))
    open W9 in
    as_aux_lemma =>
      repeat' (first | refine rnC ?_ | refine rnSB ?_ | refine rnG ?_ | refine rnU ?_ | ((fail_if_success (refine rnKn ?_)); refine rnP ?_ ?_ <;> (intro hq; try (have hq' := hq; simp only [hqs] at hq'))) | refine rkC ?_ | refine rkSB ?_ | refine rkF ?_ | refine rkU ?_ | ((fail_if_success (refine rkKn ?_)); refine rkP ?_ ?_ <;> (intro hq; try (have hq' := hq; simp only [hqs] at hq'))) | refine stp ?_ | refine ifT ?_ | refine ifF ?_ | (refine ifQ ?_ ?_ <;> (try (intro hn))) | (refine ifB ?_ ?_ <;> (intro hq; try (have hq' := hq; simp only [hqs] at hq'))))
      refine ⟨(i + 1, g + 2, out ++ N1 ++ N2), _, by dsimp only; omega, ⟨by dsimp only; omega, ?_⟩, .refl, by exact frA⟩
      dsimp only
      rw [hs, ho]
      simp only [List.append_assoc]
  · have d1 : decide ((i : Int) < (l.length : Int)) = false := decide_eq_false (by omega)
    obtain rfl : i = l.length := by omega
    rw [List.take_length] at ho
    rw [← ho]
    clear ho
    open W9 in
    as_aux_lemma =>
      repeat' (first | refine rnC ?_ | refine rnSB ?_ | refine rnG ?_ | refine rnU ?_ | ((fail_if_success (refine rnKn ?_)); refine rnP ?_ ?_ <;> (intro hq; try (have hq' := hq; simp only [hqs] at hq'))) | refine rkC ?_ | refine rkSB ?_ | refine rkF ?_ | refine rkU ?_ | ((fail_if_success (refine rkKn ?_)); refine rkP ?_ ?_ <;> (intro hq; try (have hq' := hq; simp only [hqs] at hq'))) | refine stp ?_ | refine ifT ?_ | refine ifF ?_ | (refine ifQ ?_ ?_ <;> (try (intro hn))) | (refine ifB ?_ ?_ <;> (intro hq; try (have hq' := hq; simp only [hqs] at hq'))))
      exact rt1 rfl rfl (.one (finC_map rfl rfl rfl rfl)) rfl
end Go.Proofs.YtlaeldgebecppaaGreat.Wi
namespace Go.Proofs.YtlaeldgebecppaaGreat.Wi
open Go Go.RowKit Go.Aw Go.Aw.Cart Go.Proofs.YtlaeldgebecppaaGreat.Ca
set_option linter.unusedVariables false
set_option linter.unusedSimpArgs false
set_option maxRecDepth 8000
set_option maxHeartbeats 4000000
theorem drop_at {a : List Nat} {i : Nat} (h : i < a.length) : a.drop i = a.getD i default :: a.drop (i + 1) := by
  rw [List.drop_eq_getElem_cons h, List.getD_eq_getElem?_getD, List.getElem?_eq_getElem h]; rfl
namespace PW7
theorem lopC {C : Ctx} {o : Oper} {σ : St} {e : Eff} {ro : Nat → Bool} (h : LOp C o σ e ro := by
    first | (apply lop_ix_sb; (focus rfl); (focus exact inferInstance); (focus rfl); (focus assumption); (focus rfl); (focus omega); (focus omega); (focus rfl)) | exact W9.lopC | fail) : LOp C o σ e ro := h
section steps
variable {C : Ctx} {ops : Array Oper} {o : Oper} {rest : List Oper} {K : St → Prop} {σ : St} {e : Eff} {ro : Nat → Bool} {W : List (Nat × Nat)} {i : Nat}
theorem rnC {d : Nat} (hk : RunN C ops rest K (e.app (some d) σ)) (hg : Guard ops σ o true := by first | exact gd_n rfl rfl | exact gd_t rfl rfl rfl rfl | exact gd_t rfl rfl rfl (by assumption)) (hd : o.dst = some d := by rfl) (h : LOp C o σ e ro := by exact lopC) : RunN C ops (o :: rest) K σ := rn_any hg hd h hk
theorem rkC {d : Nat} (hk : RunK C ops W (i + 1) rest K (e.app (some d) σ)) (hg : Guard ops σ o true := by first | exact gd_n rfl rfl | exact gd_t rfl rfl rfl rfl | exact gd_t rfl rfl rfl (by assumption)) (hd' : o.dst = some d := by rfl) (hd : dOk C o.dst = true := by rfl) (h : LOp C o σ e ro := by exact lopC)
    (hro : ∀ x, ro x = true → okObj ops W i x = true := by first | exact fun _ => ro_none | exact ro_one rfl | exact ro_k1 rfl | exact ro_one (by kernel_rfl) | exact ro_k1 (by kernel_rfl) | exact ro_kIn (by decide)) (hob : ∀ p ∈ e.obj, (i, p.1) ∈ W := by first | exact ob_none | exact ob_one (by decide) | decide) : RunK C ops W i (o :: rest) K σ := rk_wr hg hd' hd h hro hob hk
end steps
end PW7
theorem refLess_w (a b : List Nat) (ha : okB a) (hb : okB b) (hal : a.length ≤ 9223372036854775807) (hbl : b.length ≤ 9223372036854775807) : PCall Tryz.prog 95 [.p (.v (.string (strOf a))), .p (.v (.string (strOf b)))] (.p (.b (bLt a b))) := by
  refine pcall_of Tryz.func95 rfl (fun w0 F S0 M0 => ?_)
  obtain ⟨R, hR⟩ : ∃ R, R = bLt a b := ⟨_, rfl⟩
  rw [← hR]
  open PW7 in
  repeat' (first | refine rnC ?_ | refine rnSB ?_ | refine rnG ?_ | refine rnU ?_ | ((fail_if_success (refine rnKn ?_)); refine rnP ?_ ?_ <;> (intro hq; try (have hq' := hq; simp only [hqs] at hq'))) | refine rkC ?_ | refine rkSB ?_ | refine rkF ?_ | refine rkU ?_ | ((fail_if_success (refine rkKn ?_)); refine rkP ?_ ?_ <;> (intro hq; try (have hq' := hq; simp only [hqs] at hq'))) | refine stp ?_ | refine ifT ?_ | refine ifF ?_ | (refine ifQ ?_ ?_ <;> (try (intro hn))) | (refine ifB ?_ ?_ <;> (intro hq; try (have hq' := hq; simp only [hqs] at hq'))))
  refine aws_loopS (0 :: 1 :: [4, 5, 6, 7, 8, 9, 10, 11, 12, 13, 14, 15, 16, 17, 18, 19, 20, 21, 22, 23, 24, 25, 26, 27, 28, 29, 30, 31]) [] (fun (i : Nat) => [(5, .p (.i i)), (0, .p (.v (.string (strOf a)))), (1, .p (.v (.string (strOf b))))]) (fun _ => []) (fun i => i ≤ a.length ∧ i ≤ b.length ∧ R = bLt (a.drop i) (b.drop i)) (fun i => a.length - i) 0 ⟨Nat.zero_le _, Nat.zero_le _, hR⟩ (by exact knA) (by exact knA) ?_
  rintro i β γ ⟨hia, hib, hx⟩
  clear hR
  by_cases h1 : i < a.length
  · have d1 : decide ((i : Int) < (a.length : Int)) = true := decide_eq_true (by omega)
    by_cases h2 : i < b.length
    · have d2 : decide ((i : Int) < (b.length : Int)) = true := decide_eq_true (by omega)
      rw [drop_at h1, drop_at h2] at hx
      rw [show a.getD i default = a.getD (i : Int).toNat default by rw [Int.toNat_natCast], show b.getD i default = b.getD (i : Int).toNat default by rw [Int.toNat_natCast]] at hx
      by_cases he : a.getD (i : Int).toNat default = b.getD (i : Int).toNat default
      · have d3 : decide (((a.getD (i : Int).toNat default : Nat) : Int) ≠ ((b.getD (i : Int).toNat default : Nat) : Int)) = false := decide_eq_false fun q => q (by omega)
        have hx2 : R = bLt (a.drop (i + 1)) (b.drop (i + 1)) := by
          rw [hx, he, bLt]; simp
        clear hx
        open PW7 in
        as_aux_lemma =>
          repeat' (first | refine rnC ?_ | refine rnSB ?_ | refine rnG ?_ | refine rnU ?_ | ((fail_if_success (refine rnKn ?_)); refine rnP ?_ ?_ <;> (intro hq; try (have hq' := hq; simp only [hqs] at hq'))) | refine rkC ?_ | refine rkSB ?_ | refine rkF ?_ | refine rkU ?_ | ((fail_if_success (refine rkKn ?_)); refine rkP ?_ ?_ <;> (intro hq; try (have hq' := hq; simp only [hqs] at hq'))) | refine stp ?_ | refine aws_draws [] mixed (by kernel_rfl) ?_ | refine ifT ?_ | refine ifF ?_ | (refine ifQ ?_ ?_ <;> (try (intro hn))) | (refine ifB ?_ ?_ <;> (intro hq; try (have hq' := hq; simp only [hqs] at hq'))))
          exact ⟨i + 1, _, by omega, ⟨by omega, by omega, hx2⟩, .refl, by exact frA⟩
      · have d3 : decide (((a.getD (i : Int).toNat default : Nat) : Int) ≠ ((b.getD (i : Int).toNat default : Nat) : Int)) = true := decide_eq_true fun q => he (by omega)
        have hx2 : R = decide (((a.getD (i : Int).toNat default : Nat) : Int) < ((b.getD (i : Int).toNat default : Nat) : Int)) := by
          rw [hx, bLt, if_neg he]
          exact decide_eq_decide.2 (by omega)
        rw [hx2]
        clear hx hx2
        open PW7 in
        as_aux_lemma =>
          repeat' (first | refine rnC ?_ | refine rnSB ?_ | refine rnG ?_ | refine rnU ?_ | ((fail_if_success (refine rnKn ?_)); refine rnP ?_ ?_ <;> (intro hq; try (have hq' := hq; simp only [hqs] at hq'))) | refine rkC ?_ | refine rkSB ?_ | refine rkF ?_ | refine rkU ?_ | ((fail_if_success (refine rkKn ?_)); refine rkP ?_ ?_ <;> (intro hq; try (have hq' := hq; simp only [hqs] at hq'))) | refine stp ?_ | refine aws_draws [] mixed (by kernel_rfl) ?_ | refine ifT ?_ | refine ifF ?_ | (refine ifQ ?_ ?_ <;> (try (intro hn))) | (refine ifB ?_ ?_ <;> (intro hq; try (have hq' := hq; simp only [hqs] at hq'))))
          exact rt1 rfl rfl finS_p rfl
    · have d2 : decide ((i : Int) < (b.length : Int)) = false := decide_eq_false (by omega)
      have hx2 : R = decide ((a.length : Int) < (b.length : Int)) := by
        rw [hx, List.drop_of_length_le (by omega : b.length ≤ i), decide_eq_false (by omega)]
        cases a.drop i <;> rfl
      rw [hx2]
      clear hx hx2
      open PW7 in
      as_aux_lemma =>
        repeat' (first | refine rnC ?_ | refine rnSB ?_ | refine rnG ?_ | refine rnU ?_ | ((fail_if_success (refine rnKn ?_)); refine rnP ?_ ?_ <;> (intro hq; try (have hq' := hq; simp only [hqs] at hq'))) | refine rkC ?_ | refine rkSB ?_ | refine rkF ?_ | refine rkU ?_ | ((fail_if_success (refine rkKn ?_)); refine rkP ?_ ?_ <;> (intro hq; try (have hq' := hq; simp only [hqs] at hq'))) | refine stp ?_ | refine ifT ?_ | refine ifF ?_ | (refine ifQ ?_ ?_ <;> (try (intro hn))) | (refine ifB ?_ ?_ <;> (intro hq; try (have hq' := hq; simp only [hqs] at hq'))))
        exact rt1 rfl rfl finS_p rfl
  · have d1 : decide ((i : Int) < (a.length : Int)) = false := decide_eq_false (by omega)
    have hx2 : R = decide ((a.length : Int) < (b.length : Int)) := by
      rw [hx, List.drop_of_length_le (by omega : a.length ≤ i)]
      by_cases h2 : i < b.length
      · rw [drop_at h2, decide_eq_true (by omega)]; rfl
      · rw [List.drop_of_length_le (by omega : b.length ≤ i), decide_eq_false (by omega)]; rfl
    rw [hx2]
    clear hx hx2
    open PW7 in
    as_aux_lemma =>
      repeat' (first | refine rnC ?_ | refine rnSB ?_ | refine rnG ?_ | refine rnU ?_ | ((fail_if_success (refine rnKn ?_)); refine rnP ?_ ?_ <;> (intro hq; try (have hq' := hq; simp only [hqs] at hq'))) | refine rkC ?_ | refine rkSB ?_ | refine rkF ?_ | refine rkU ?_ | ((fail_if_success (refine rkKn ?_)); refine rkP ?_ ?_ <;> (intro hq; try (have hq' := hq; simp only [hqs] at hq'))) | refine stp ?_ | refine ifT ?_ | refine ifF ?_ | (refine ifQ ?_ ?_ <;> (try (intro hn))) | (refine ifB ?_ ?_ <;> (intro hq; try (have hq' := hq; simp only [hqs] at hq'))))
      exact rt1 rfl rfl finS_p rfl
end Go.Proofs.YtlaeldgebecppaaGreat.Wi
