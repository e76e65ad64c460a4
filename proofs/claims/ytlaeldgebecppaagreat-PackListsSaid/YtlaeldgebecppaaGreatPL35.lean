/- the reference's lists: which may be; packs: lists written and read -/
import Derived.Test.YtlaeldgebecppaaGreatPL34
import Derived.Test.YtlaeldgebecppaaGreatPL26
import Derived.Test.YtlaeldgebecppaaGreatPL31
namespace Go.Proofs.YtlaeldgebecppaaGreat.Wi
open Go Go.RowKit Go.Aw Go.Aw.Cart Go.Proofs.YtlaeldgebecppaaGreat.Ca
set_option linter.unusedVariables false
set_option linter.unusedSimpArgs false
set_option maxRecDepth 8000
set_option maxHeartbeats 4000000
open W9
theorem refRight10_w (l : List Kd) (ex : Bool) (hl : l.length ≤ 1000000000) (hin : ∀ k ∈ l, KdI k) (hf : ∀ k ∈ l, k.2.2.length ≤ 1000000000) : PCall Tryz.prog 32 [.p (.sl 10 (l.map kR) ex)] (.p (.b (keysF l))) := by
  refine pcall_of Tryz.func32 rfl (fun w0 F S0 M0 => ?_)
  repeat' (first | refine rnC ?_ | refine rnSB ?_ | refine rnG ?_ | refine rnU ?_ | ((fail_if_success (refine rnKn ?_)); refine rnP ?_ ?_ <;> (intro hq; try (have hq' := hq; simp only [hqs] at hq'))) | refine rkC ?_ | refine rkSB ?_ | refine rkF ?_ | refine rkU ?_ | ((fail_if_success (refine rkKn ?_)); refine rkP ?_ ?_ <;> (intro hq; try (have hq' := hq; simp only [hqs] at hq'))) | refine stp ?_ | refine aws_draws [] mixed (by kernel_rfl) ?_ | refine ifT ?_ | refine ifF ?_ | (refine ifQ ?_ ?_ <;> (try (intro hn))) | (refine ifB ?_ ?_ <;> (intro hq; try (have hq' := hq; simp only [hqs] at hq'))))
  refine aws_loopS (0 :: [2, 3, 4, 5, 6, 7, 8, 9, 10, 11, 12, 13, 14, 15, 16, 17, 18, 19, 20, 21, 22, 23, 24, 25, 26, 27, 28, 29, 30, 31, 32, 33, 34, 35, 36, 37, 38, 39, 40, 41, 42, 43, 44]) [] (fun (x : Nat) => [(3, .p (.i x)), (0, .p (.sl 10 (l.map kR) ex))]) (fun x => []) (fun x => x ≤ l.length ∧ ∀ j, j < x → kdOk l j = true) (fun x => l.length - x) 0 ⟨Nat.zero_le _, fun j hj => absurd hj (Nat.not_lt_zero _)⟩ (by exact knA) (by exact knA) ?_
  rintro i β γ ⟨hi, hx⟩
  by_cases hil : i < l.length
  · have d1 : decide ((i : Int) < (l.length : Int)) = true := decide_eq_true (by omega)
    have ei : (i : Int).toNat = i := Int.toNat_natCast i
    have hm : l.getD (i : Int).toNat default ∈ l := by rw [ei, getD_at hil]; exact List.getElem_mem _
    have hk := hin _ hm
    have okx := hk.key
    have hfx := hf _ hm
    have h8 := hk.vec.1
    have hok : kdOk l i = (decide ((l.getD (i : Int).toNat default).1.length ≤ 20) && ((decide (i = 0) || bLt (l.getD (i - 1) default).1 (l.getD (i : Int).toNat default).1) && rightF (l.getD (i : Int).toNat default).2.1 (l.getD (i : Int).toNat default).2.2)) := by unfold kdOk; rw [ei]
    have hnext : kdOk l i = true → ∀ j, j < i + 1 → kdOk l j = true := fun h j hj => by
      by_cases e : j = i
      · rw [e]; exact h
      · exact hx j (by omega)
    haveI hR : PC Tryz.prog 96 [cV (l.getD (i : Int).toNat default).2.1 (l.getD (i : Int).toNat default).2.2 false] True (.p (.b (rightF (l.getD (i : Int).toNat default).2.1 (l.getD (i : Int).toNat default).2.2))) := ⟨fun _ => Cr.right_r _ _ _ h8 hfx⟩
    generalize rightF (l.getD (i : Int).toNat default).2.1 (l.getD (i : Int).toNat default).2.2 = R at hR hok
    by_cases h1 : (l.getD (i : Int).toNat default).1.length ≤ 20
    · have c1 : decide (20 < ((l.getD (i : Int).toNat default).1.length : Int)) = false := decide_eq_false (by omega)
      rw [decide_eq_true h1, Bool.true_and] at hok
      by_cases h0 : i = 0
      · have c2 : decide (0 < (i : Int)) = false := decide_eq_false (by omega)
        rw [decide_eq_true h0, Bool.true_or, Bool.true_and] at hok
        cases R with
        | true =>
          have c4 : (!true) = false := rfl
          clear hin hf hx hm hk
          as_aux_lemma =>
            repeat' (first | refine rnC ?_ | refine rnSB ?_ | refine rnG ?_ | refine rnU ?_ | ((fail_if_success (refine rnKn ?_)); refine rnP ?_ ?_ <;> (intro hq; try (have hq' := hq; simp only [hqs] at hq'))) | refine rkC ?_ | refine rkSB ?_ | refine rkF ?_ | refine rkU ?_ | ((fail_if_success (refine rkKn ?_)); refine rkP ?_ ?_ <;> (intro hq; try (have hq' := hq; simp only [hqs] at hq'))) | refine stp ?_ | refine aws_draws [] mixed (by kernel_rfl) ?_ | refine ifT ?_ | refine ifF ?_ | (refine ifQ ?_ ?_ <;> (try (intro hn))) | (refine ifB ?_ ?_ <;> (intro hq; try (have hq' := hq; simp only [hqs] at hq'))))
            exact ⟨i + 1, _, by omega, ⟨by omega, hnext hok⟩, .refl, by exact frA⟩
        | false =>
          have c4 : (!false) = true := rfl
          rw [keysF_no hil hok]
          clear hin hf hx hm hk hnext
          as_aux_lemma =>
            repeat' (first | refine rnC ?_ | refine rnSB ?_ | refine rnG ?_ | refine rnU ?_ | ((fail_if_success (refine rnKn ?_)); refine rnP ?_ ?_ <;> (intro hq; try (have hq' := hq; simp only [hqs] at hq'))) | refine rkC ?_ | refine rkSB ?_ | refine rkF ?_ | refine rkU ?_ | ((fail_if_success (refine rkKn ?_)); refine rkP ?_ ?_ <;> (intro hq; try (have hq' := hq; simp only [hqs] at hq'))) | refine stp ?_ | refine aws_draws [] mixed (by kernel_rfl) ?_ | refine ifT ?_ | refine ifF ?_ | (refine ifQ ?_ ?_ <;> (try (intro hn))) | (refine ifB ?_ ?_ <;> (intro hq; try (have hq' := hq; simp only [hqs] at hq'))))
            exact rt1 rfl rfl finS_p rfl
      · have c2 : decide (0 < (i : Int)) = true := decide_eq_true (by omega)
        have ej : ((i : Int) - 1).toNat = i - 1 := by omega
        have hm2 : l.getD ((i : Int) - 1).toNat default ∈ l := by rw [ej, getD_at (by omega)]; exact List.getElem_mem _
        have oky := (hin _ hm2).key
        rw [decide_eq_false h0, Bool.false_or, ← ej] at hok
        have hL := refLess_w (l.getD ((i : Int) - 1).toNat default).1 (l.getD (i : Int).toNat default).1 oky okx (hin _ hm2).len hk.len
        generalize hB : bLt (l.getD ((i : Int) - 1).toNat default).1 (l.getD (i : Int).toNat default).1 = B at hok hL
        cases B with
        | true =>
          haveI : PC Tryz.prog 95 [.p (.v (.string (strOf (l.getD ((i : Int) - 1).toNat default).1))), .p (.v (.string (strOf (l.getD (i : Int).toNat default).1)))] True (.p (.b true)) := ⟨fun _ => hL⟩
          have c3 : (!true) = false := rfl
          rw [Bool.true_and] at hok
          cases R with
          | true =>
            have c4 : (!true) = false := rfl
            clear hin hf hx hm hk hm2 hB hL
            as_aux_lemma =>
              repeat' (first | refine rnC ?_ | refine rnSB ?_ | refine rnG ?_ | refine rnU ?_ | ((fail_if_success (refine rnKn ?_)); refine rnP ?_ ?_ <;> (intro hq; try (have hq' := hq; simp only [hqs] at hq'))) | refine rkC ?_ | refine rkSB ?_ | refine rkF ?_ | refine rkU ?_ | ((fail_if_success (refine rkKn ?_)); refine rkP ?_ ?_ <;> (intro hq; try (have hq' := hq; simp only [hqs] at hq'))) | refine stp ?_ | refine aws_draws [] mixed (by kernel_rfl) ?_ | refine ifT ?_ | refine ifF ?_ | (refine ifQ ?_ ?_ <;> (try (intro hn))) | (refine ifB ?_ ?_ <;> (intro hq; try (have hq' := hq; simp only [hqs] at hq'))))
              exact ⟨i + 1, _, by omega, ⟨by omega, hnext hok⟩, .refl, by exact frA⟩
          | false =>
            have c4 : (!false) = true := rfl
            rw [keysF_no hil hok]
            clear hin hf hx hm hk hm2 hB hL hnext
            as_aux_lemma =>
              repeat' (first | refine rnC ?_ | refine rnSB ?_ | refine rnG ?_ | refine rnU ?_ | ((fail_if_success (refine rnKn ?_)); refine rnP ?_ ?_ <;> (intro hq; try (have hq' := hq; simp only [hqs] at hq'))) | refine rkC ?_ | refine rkSB ?_ | refine rkF ?_ | refine rkU ?_ | ((fail_if_success (refine rkKn ?_)); refine rkP ?_ ?_ <;> (intro hq; try (have hq' := hq; simp only [hqs] at hq'))) | refine stp ?_ | refine aws_draws [] mixed (by kernel_rfl) ?_ | refine ifT ?_ | refine ifF ?_ | (refine ifQ ?_ ?_ <;> (try (intro hn))) | (refine ifB ?_ ?_ <;> (intro hq; try (have hq' := hq; simp only [hqs] at hq'))))
              exact rt1 rfl rfl finS_p rfl
        | false =>
          haveI : PC Tryz.prog 95 [.p (.v (.string (strOf (l.getD ((i : Int) - 1).toNat default).1))), .p (.v (.string (strOf (l.getD (i : Int).toNat default).1)))] True (.p (.b false)) := ⟨fun _ => hL⟩
          have c3 : (!false) = true := rfl
          rw [Bool.false_and] at hok
          rw [keysF_no hil hok]
          clear hin hf hx hm hk hm2 hB hL hnext
          as_aux_lemma =>
            repeat' (first | refine rnC ?_ | refine rnSB ?_ | refine rnG ?_ | refine rnU ?_ | ((fail_if_success (refine rnKn ?_)); refine rnP ?_ ?_ <;> (intro hq; try (have hq' := hq; simp only [hqs] at hq'))) | refine rkC ?_ | refine rkSB ?_ | refine rkF ?_ | refine rkU ?_ | ((fail_if_success (refine rkKn ?_)); refine rkP ?_ ?_ <;> (intro hq; try (have hq' := hq; simp only [hqs] at hq'))) | refine stp ?_ | refine aws_draws [] mixed (by kernel_rfl) ?_ | refine ifT ?_ | refine ifF ?_ | (refine ifQ ?_ ?_ <;> (try (intro hn))) | (refine ifB ?_ ?_ <;> (intro hq; try (have hq' := hq; simp only [hqs] at hq'))))
            exact rt1 rfl rfl finS_p rfl
    · have c1 : decide (20 < ((l.getD (i : Int).toNat default).1.length : Int)) = true := decide_eq_true (by omega)
      rw [decide_eq_false h1, Bool.false_and] at hok
      rw [keysF_no hil hok]
      clear hin hf hx hm hk hnext
      as_aux_lemma =>
        repeat' (first | refine rnC ?_ | refine rnSB ?_ | refine rnG ?_ | refine rnU ?_ | ((fail_if_success (refine rnKn ?_)); refine rnP ?_ ?_ <;> (intro hq; try (have hq' := hq; simp only [hqs] at hq'))) | refine rkC ?_ | refine rkSB ?_ | refine rkF ?_ | refine rkU ?_ | ((fail_if_success (refine rkKn ?_)); refine rkP ?_ ?_ <;> (intro hq; try (have hq' := hq; simp only [hqs] at hq'))) | refine stp ?_ | refine aws_draws [] mixed (by kernel_rfl) ?_ | refine ifT ?_ | refine ifF ?_ | (refine ifQ ?_ ?_ <;> (try (intro hn))) | (refine ifB ?_ ?_ <;> (intro hq; try (have hq' := hq; simp only [hqs] at hq'))))
        exact rt1 rfl rfl finS_p rfl
  · have d1 : decide ((i : Int) < (l.length : Int)) = false := decide_eq_false (by omega)
    have e : keysF l = decide ((l.length : Int) ≤ 2000) := decide_eq_decide.2 ⟨fun q => by omega, fun q => ⟨by omega, fun j hj => hx j (by omega)⟩⟩
    rw [e]
    as_aux_lemma =>
      repeat' (first | refine rnC ?_ | refine rnSB ?_ | refine rnG ?_ | refine rnU ?_ | ((fail_if_success (refine rnKn ?_)); refine rnP ?_ ?_ <;> (intro hq; try (have hq' := hq; simp only [hqs] at hq'))) | refine rkC ?_ | refine rkSB ?_ | refine rkF ?_ | refine rkU ?_ | ((fail_if_success (refine rkKn ?_)); refine rkP ?_ ?_ <;> (intro hq; try (have hq' := hq; simp only [hqs] at hq'))) | refine stp ?_ | refine aws_draws [] mixed (by kernel_rfl) ?_ | refine ifT ?_ | refine ifF ?_ | (refine ifQ ?_ ?_ <;> (try (intro hn))) | (refine ifB ?_ ?_ <;> (intro hq; try (have hq' := hq; simp only [hqs] at hq'))))
      exact rt1 rfl rfl finS_p rfl
end Go.Proofs.YtlaeldgebecppaaGreat.Wi
namespace Go.Proofs.YtlaeldgebecppaaGreat.Wi
open Go Go.RowKit Go.Aw Go.Aw.Cart Go.Proofs.YtlaeldgebecppaaGreat.Ca
set_option linter.unusedVariables false
set_option linter.unusedSimpArgs false
set_option maxRecDepth 8000
set_option maxHeartbeats 4000000
namespace WA
theorem lopC {C : Ctx} {o : Oper} {σ : St} {e : Eff} {ro : Nat → Bool} (h : LOp C o σ e ro := by
    first | (apply lop_cv_sb; (focus rfl); (focus exact inferInstance); (focus exact inferInstance); (focus exact inferInstance); (focus rfl); (focus assumption); (focus first | (simp only [maxLen, List.length_append, List.length_cons, List.length_nil, List.length_take, List.length_drop, List.length_map]; omega) | omega); (focus rfl)) | (apply lop_cv_bs; (focus rfl); (focus exact inferInstance); (focus exact inferInstance); (focus exact inferInstance); (focus rfl); (focus rfl)) | exact W9.lopC | fail) : LOp C o σ e ro := h
section steps
variable {C : Ctx} {ops : Array Oper} {o : Oper} {rest : List Oper} {K : St → Prop} {σ : St} {e : Eff} {ro : Nat → Bool} {W : List (Nat × Nat)} {i : Nat}
theorem rnC {d : Nat} (hk : RunN C ops rest K (e.app (some d) σ)) (hg : Guard ops σ o true := by first | exact gd_n rfl rfl | exact gd_t rfl rfl rfl rfl | exact gd_t rfl rfl rfl (by assumption)) (hd : o.dst = some d := by rfl) (h : LOp C o σ e ro := by exact lopC) : RunN C ops (o :: rest) K σ := rn_any hg hd h hk
theorem rkC {d : Nat} (hk : RunK C ops W (i + 1) rest K (e.app (some d) σ)) (hg : Guard ops σ o true := by first | exact gd_n rfl rfl | exact gd_t rfl rfl rfl rfl | exact gd_t rfl rfl rfl (by assumption)) (hd' : o.dst = some d := by rfl) (hd : dOk C o.dst = true := by rfl) (h : LOp C o σ e ro := by exact lopC)
    (hro : ∀ x, ro x = true → okObj ops W i x = true := by first | exact fun _ => ro_none | exact ro_one rfl | exact ro_k1 rfl | exact ro_one (by kernel_rfl) | exact ro_k1 (by kernel_rfl) | exact ro_kIn (by decide)) (hob : ∀ p ∈ e.obj, (i, p.1) ∈ W := by first | exact ob_none | exact ob_one (by decide) | decide) : RunK C ops W i (o :: rest) K σ := rk_wr hg hd' hd h hro hob hk
end steps
end WA
open WA
theorem kdB_len {k : Kd} (h : k.1.length ≤ 20) (hv : vecOk k.2.1) (hr : rightF k.2.1 k.2.2 = true) : (kdB k).length ≤ 20029 := by
  have h1 := cartB_len hv hr
  have h2 := numI_len ((k.1.length : Nat) : Int)
  rw [numI_nat] at h2
  unfold kdB textB
  rw [List.length_append, List.length_append]
  have h3 : (cartB k.2).length ≤ 20000 := h1
  omega
theorem writeAll_ok (l : List Kd) (ex : Bool) (hk : keysF l = true) (hin : ∀ k ∈ l, KdI k) : PCall Tryz.prog 28 [.p (.sl 10 (l.map kR) ex)] (.tup [.one (.p (.sl 1 ((listB l).map bR) false)), .one (.p (.i 0))]) := by
  refine pcall_of Tryz.func28 rfl (fun w0 F S0 M0 => ?_)
  have ho := keys_iff.1 hk
  have hl := ho.few
  haveI : PC Tryz.prog 31 [.p (.sl 10 (l.map kR) ex)] True (.p (.b true)) := ⟨fun _ => by
    have := pright_w l ex (by omega) hin (fun k hm => by have := (ok_iff.1 (ho.cart k hm)).few; omega)
    rwa [hk] at this⟩
  have d0 : (!true) = false := rfl
  have b1 : l.length < 18446744073709551616 := by omega
  have hnl := numI_len (l.length : Int)
  rw [numI_nat] at hnl
  have hB : listB l = numB l.length ++ l.flatMap kdB := rfl
  rw [hB]
  repeat' (first | refine rnC ?_ | refine rnSB ?_ | refine rnG ?_ | refine rnU ?_ | ((fail_if_success (refine rnKn ?_)); refine rnP ?_ ?_ <;> (intro hq; try (have hq' := hq; simp only [hqs] at hq'))) | refine rkC ?_ | refine rkSB ?_ | refine rkF ?_ | refine rkU ?_ | ((fail_if_success (refine rkKn ?_)); refine rkP ?_ ?_ <;> (intro hq; try (have hq' := hq; simp only [hqs] at hq'))) | refine stp ?_ | refine ifT ?_ | refine ifF ?_ | (refine ifQ ?_ ?_ <;> (try (intro hn))) | (refine ifB ?_ ?_ <;> (intro hq; try (have hq' := hq; simp only [hqs] at hq'))))
  refine rn_says (says_wr (p := 11) rfl) rfl ?_
  repeat' (first | refine rnC ?_ | refine rnSB ?_ | refine rnG ?_ | refine rnU ?_ | ((fail_if_success (refine rnKn ?_)); refine rnP ?_ ?_ <;> (intro hq; try (have hq' := hq; simp only [hqs] at hq'))) | refine rkC ?_ | refine rkSB ?_ | refine rkF ?_ | refine rkU ?_ | ((fail_if_success (refine rkKn ?_)); refine rkP ?_ ?_ <;> (intro hq; try (have hq' := hq; simp only [hqs] at hq'))) | refine stp ?_ | refine ifT ?_ | refine ifF ?_ | (refine ifQ ?_ ?_ <;> (try (intro hn))) | (refine ifB ?_ ?_ <;> (intro hq; try (have hq' := hq; simp only [hqs] at hq'))))
  have e0 : ([] ++ numB l.length : List Nat) = numB l.length := rfl
  rw [e0]
  generalize numB l.length = B0 at hnl ⊢
  refine aws_loopS [6, 19, 20, 21, 22, 23, 24, 25, 26, 27, 28, 29, 30, 31, 32] [11, 6] (fun (x : Nat × List Nat × Option MO) => [(19, .p (.i x.1))]) (fun x => [(11, (1, some (.abs (wrA x.2.1)))), (6, (x.1, x.2.2))]) (fun x => x.1 ≤ l.length ∧ x.2.1 = B0 ++ (l.take x.1).flatMap kdB ∧ x.2.1.length ≤ 9 + 20029 * x.1) (fun x => l.length - x.1) (0, B0, none) ⟨Nat.zero_le _, by simp, by dsimp only; omega⟩ (by exact knA) (by exact knA) ?_
  rintro ⟨i, L, c6⟩ β γ ⟨hi, hL, hll⟩
  dsimp only at hi hL hll ⊢
  by_cases hil : i < l.length
  · have d1 : decide ((i : Int) < (l.length : Int)) = true := decide_eq_true (by omega)
    have ei : (i : Int).toNat = i := Int.toNat_natCast i
    have hm : l.getD (i : Int).toNat default ∈ l := by rw [ei, getD_at hil]; exact List.getElem_mem _
    have okx := (hin _ hm).key
    have vx := (hin _ hm).vec
    have kx := ho.key _ hm
    have rx := ho.cart _ hm
    have hkl := kdB_len kx vx rx
    have hft := flat_take kdB hil
    rw [← ei] at hft
    have kx' : (l.getD (i : Int).toNat default).1.length ≤ 1000000 := by omega
    have g1 : L.length ≤ 900000000 := by omega
    have ht : (textB (l.getD (i : Int).toNat default).1).length ≤ 29 := by
      have h2 := numI_len (((l.getD (i : Int).toNat default).1.length : Nat) : Int)
      rw [numI_nat] at h2
      unfold textB
      rw [List.length_append]; omega
    have g2 : (L ++ textB (l.getD (i : Int).toNat default).1).length ≤ 800000000 := by rw [List.length_append]; omega
    have e2 : L ++ textB (l.getD (i : Int).toNat default).1 ++ cartB ((l.getD (i : Int).toNat default).2.1, (l.getD (i : Int).toNat default).2.2) = L ++ kdB (l.getD (i : Int).toNat default) := by rw [List.append_assoc]; rfl
    have hn : L ++ textB (l.getD (i : Int).toNat default).1 ++ cartB ((l.getD (i : Int).toNat default).2.1, (l.getD (i : Int).toNat default).2.2) = B0 ++ (l.take (i + 1)).flatMap kdB := by
      rw [e2, hL]
      rw [show (i : Int).toNat = i from ei] at hft ⊢
      rw [hft, List.append_assoc]
    have g5 : (L ++ textB (l.getD (i : Int).toNat default).1 ++ cartB ((l.getD (i : Int).toNat default).2.1, (l.getD (i : Int).toNat default).2.2)).length ≤ 9 + 20029 * (i + 1) := by rw [e2, List.length_append]; omega
    clear hft hL e2 hkl hin ho kx
    as_aux_lemma =>
      repeat' (first | refine rnC ?_ | refine rnSB ?_ | refine rnG ?_ | refine rnU ?_ | ((fail_if_success (refine rnKn ?_)); refine rnP ?_ ?_ <;> (intro hq; try (have hq' := hq; simp only [hqs] at hq'))) | refine rkC ?_ | refine rkSB ?_ | refine rkF ?_ | refine rkU ?_ | ((fail_if_success (refine rkKn ?_)); refine rkP ?_ ?_ <;> (intro hq; try (have hq' := hq; simp only [hqs] at hq'))) | refine stp ?_ | refine ifT ?_ | refine ifF ?_ | (refine ifQ ?_ ?_ <;> (try (intro hn))) | (refine ifB ?_ ?_ <;> (intro hq; try (have hq' := hq; simp only [hqs] at hq'))))
      exact ⟨(i + 1, _, _), _, by dsimp only; omega, ⟨by dsimp only; omega, hn, g5⟩, .refl, by exact frA⟩
  · have d1 : decide ((i : Int) < (l.length : Int)) = false := decide_eq_false (by omega)
    rw [List.take_of_length_le (by omega)] at hL
    rw [← hL]
    clear hL hin ho
    have hl9 : L.length ≤ 1000000000 := by omega
    as_aux_lemma =>
      repeat' (first | refine rnC ?_ | refine rnSB ?_ | refine rnG ?_ | refine rnU ?_ | ((fail_if_success (refine rnKn ?_)); refine rnP ?_ ?_ <;> (intro hq; try (have hq' := hq; simp only [hqs] at hq'))) | refine rkC ?_ | refine rkSB ?_ | refine rkF ?_ | refine rkU ?_ | ((fail_if_success (refine rkKn ?_)); refine rkP ?_ ?_ <;> (intro hq; try (have hq' := hq; simp only [hqs] at hq'))) | refine stp ?_ | refine ifT ?_ | refine ifF ?_ | (refine ifQ ?_ ?_ <;> (try (intro hn))) | (refine ifB ?_ ?_ <;> (intro hq; try (have hq' := hq; simp only [hqs] at hq'))))
      exact rt2 rfl rfl finS_p rfl finS_p rfl
theorem writeAll_no (l : List Kd) (ex : Bool) (hk : keysF l = false) (hl : l.length ≤ 1000000000) (hin : ∀ k ∈ l, KdI k) (hf : ∀ k ∈ l, k.2.2.length ≤ 1000000000) : PCall Tryz.prog 28 [.p (.sl 10 (l.map kR) ex)] (.tup [.one (.p (.sl 1 (([] : List Nat).map bR) false)), .one (.p (.i 3))]) := by
  refine pcall_of Tryz.func28 rfl (fun w0 F S0 M0 => ?_)
  haveI : PC Tryz.prog 31 [.p (.sl 10 (l.map kR) ex)] True (.p (.b false)) := ⟨fun _ => by
    have := pright_w l ex hl hin hf
    rwa [hk] at this⟩
  have d0 : (!false) = true := rfl
  clear hin hf
  as_aux_lemma =>
    repeat' (first | refine rnC ?_ | refine rnSB ?_ | refine rnG ?_ | refine rnU ?_ | ((fail_if_success (refine rnKn ?_)); refine rnP ?_ ?_ <;> (intro hq; try (have hq' := hq; simp only [hqs] at hq'))) | refine rkC ?_ | refine rkSB ?_ | refine rkF ?_ | refine rkU ?_ | ((fail_if_success (refine rkKn ?_)); refine rkP ?_ ?_ <;> (intro hq; try (have hq' := hq; simp only [hqs] at hq'))) | refine stp ?_ | refine ifT ?_ | refine ifF ?_ | (refine ifQ ?_ ?_ <;> (try (intro hn))) | (refine ifB ?_ ?_ <;> (intro hq; try (have hq' := hq; simp only [hqs] at hq'))))
    exact rt2 rfl rfl (.one .nil) rfl finS_p rfl
end Go.Proofs.YtlaeldgebecppaaGreat.Wi
