/- a list as the reference's; the reference's lists: equal ones are the same -/
import Derived.Test.YtlaeldgebecppaaGreatPB39
namespace Go.Proofs.YtlaeldgebecppaaGreat.Wi
open Go Go.RowKit Go.Aw Go.Aw.Cart Go.Proofs.YtlaeldgebecppaaGreat.Ca
set_option linter.unusedVariables false
set_option linter.unusedSimpArgs false
set_option maxRecDepth 8000
set_option maxHeartbeats 4000000
open W9
theorem asK_w (l : List Kd) (ex : Bool) (hl : l.length ≤ 100000) (hin : ∀ k ∈ l, KdI k) (hf : ∀ k ∈ l, k.2.2.length ≤ 1000000) : PCall Tryz.prog 13 [.p (.sl 10 (l.map kR) ex)] (.p (.sl 10 (l.map kR) false)) := by
  refine pcall_of Tryz.func13 rfl (fun w0 F S0 M0 => ?_)
  repeat' (first | refine rnC ?_ | refine rnSB ?_ | refine rnG ?_ | refine rnU ?_ | ((fail_if_success (refine rnKn ?_)); refine rnP ?_ ?_ <;> (intro hq; try (have hq' := hq; simp only [hqs] at hq'))) | refine rkC ?_ | refine rkSB ?_ | refine rkF ?_ | refine rkU ?_ | ((fail_if_success (refine rkKn ?_)); refine rkP ?_ ?_ <;> (intro hq; try (have hq' := hq; simp only [hqs] at hq'))) | refine stp ?_ | refine ifT ?_ | refine ifF ?_ | (refine ifQ ?_ ?_ <;> (try (intro hn))) | (refine ifB ?_ ?_ <;> (intro hq; try (have hq' := hq; simp only [hqs] at hq'))))
  refine aws_says (says_nil (t := 3) (o := 901) (ty := 114) (es := 10) rfl rfl (by decide)) ?_
  refine aws_loopS [3, 4, 5, 6, 7, 8, 9, 10, 11, 12, 13, 14, 15, 16, 17, 18, 19, 20, 21, 22, 23, 24, 25] [901] (fun (x : Nat × List Kd) => [(4, .p (.i x.1)), (3, .o (.osl 901 x.1 10 0 x.2.length))]) (fun x => [(901, (x.1 + 1, some (.buf 114 10 (x.2.map kR))))])
    (fun x => x.1 ≤ l.length ∧ x.2 = l.take x.1) (fun x => l.length - x.1) (0, []) ⟨Nat.zero_le _, rfl⟩ (by exact knA) (by exact knA) ?_
  rintro ⟨i, m⟩ β γ ⟨hi, hm⟩
  dsimp only at hi hm ⊢
  have hml : m.length = i := by rw [hm, List.length_take]; omega
  by_cases hil : i < l.length
  · have hd : decide ((i : Int) < (l.length : Int)) = true := decide_eq_true (by omega)
    have ei : (i : Int).toNat = i := Int.toNat_natCast i
    have hk : l.getD (i : Int).toNat default ∈ l := by rw [ei, getD_at hil]; exact List.getElem_mem _
    have ca := Cr.as_r (l.getD (i : Int).toNat default).2.1 (l.getD (i : Int).toNat default).2.2 false (hf _ hk)
    haveI : PC Tryz.prog 60 [cV (l.getD (i : Int).toNat default).2.1 (l.getD (i : Int).toNat default).2.2 false] True (cV (l.getD (i : Int).toNat default).2.1 (l.getD (i : Int).toNat default).2.2 false) := ⟨fun _ => ca⟩
    have hn : m ++ [l.getD (i : Int).toNat default] = l.take (i + 1) := by rw [hm, take_get' hil, ei]
    clear ca hk hf hin hm
    repeat' (first | refine rnC ?_ | refine rnSB ?_ | refine rnG ?_ | refine rnU ?_ | ((fail_if_success (refine rnKn ?_)); refine rnP ?_ ?_ <;> (intro hq; try (have hq' := hq; simp only [hqs] at hq'))) | refine rkC ?_ | refine rkSB ?_ | refine rkF ?_ | refine rkU ?_ | ((fail_if_success (refine rkKn ?_)); refine rkP ?_ ?_ <;> (intro hq; try (have hq' := hq; simp only [hqs] at hq'))) | refine stp ?_ | refine ifT ?_ | refine ifF ?_ | (refine ifQ ?_ ?_ <;> (try (intro hn))) | (refine ifB ?_ ?_ <;> (intro hq; try (have hq' := hq; simp only [hqs] at hq'))))
    refine aws_draws [(14, 901)] mixed (by kernel_rfl) ?_
    repeat' (first | refine rk_nil ?_ | refine rkC ?_ | refine rkSB ?_ | refine rkF ?_ | refine rkU ?_ | ((fail_if_success (refine rkKn ?_)); refine rkP ?_ ?_ <;> (intro hq; try (have hq' := hq; simp only [hqs] at hq'))))
    as_aux_lemma =>
      repeat' (first | refine rnC ?_ | refine rnSB ?_ | refine rnG ?_ | refine rnU ?_ | ((fail_if_success (refine rnKn ?_)); refine rnP ?_ ?_ <;> (intro hq; try (have hq' := hq; simp only [hqs] at hq'))) | refine rkC ?_ | refine rkSB ?_ | refine rkF ?_ | refine rkU ?_ | ((fail_if_success (refine rkKn ?_)); refine rkP ?_ ?_ <;> (intro hq; try (have hq' := hq; simp only [hqs] at hq'))) | refine stp ?_ | refine ifT ?_ | refine ifF ?_ | (refine ifQ ?_ ?_ <;> (try (intro hn))) | (refine ifB ?_ ?_ <;> (intro hq; try (have hq' := hq; simp only [hqs] at hq'))))
      exact ⟨(i + 1, m ++ [l.getD (i : Int).toNat default]), _, by dsimp only; omega, ⟨by dsimp only; omega, hn⟩, .refl, by exact frA⟩
  · have hd : decide ((i : Int) < (l.length : Int)) = false := decide_eq_false (by omega)
    have hm' : l = m := by rw [hm, List.take_of_length_le (by omega)]
    rw [hm']
    rw [hm'] at hd
    clear hm' hm
    as_aux_lemma =>
      repeat' (first | refine rnC ?_ | refine rnSB ?_ | refine rnG ?_ | refine rnU ?_ | ((fail_if_success (refine rnKn ?_)); refine rnP ?_ ?_ <;> (intro hq; try (have hq' := hq; simp only [hqs] at hq'))) | refine rkC ?_ | refine rkSB ?_ | refine rkF ?_ | refine rkU ?_ | ((fail_if_success (refine rkKn ?_)); refine rkP ?_ ?_ <;> (intro hq; try (have hq' := hq; simp only [hqs] at hq'))) | refine stp ?_ | refine ifT ?_ | refine ifF ?_ | (refine ifQ ?_ ?_ <;> (try (intro hn))) | (refine ifB ?_ ?_ <;> (intro hq; try (have hq' := hq; simp only [hqs] at hq'))))
      exact rt1 rfl rfl (.one (finC_map rfl rfl rfl rfl)) rfl
end Go.Proofs.YtlaeldgebecppaaGreat.Wi
namespace Go.Proofs.YtlaeldgebecppaaGreat.Wi
open Go Go.RowKit Go.Aw Go.Aw.Cart Go.Proofs.YtlaeldgebecppaaGreat.Ca
set_option linter.unusedVariables false
set_option linter.unusedSimpArgs false
set_option maxRecDepth 8000
set_option maxHeartbeats 4000000
namespace PW9
theorem lopC {C : Ctx} {o : Oper} {σ : St} {e : Eff} {ro : Nat → Bool} (h : LOp C o σ e ro := by
    first | (apply gBin; (focus rfl); apply lop_nes; (focus rfl); (focus exact inferInstance); (focus rfl); (focus rfl); (focus assumption); (focus assumption); (focus rfl)) | exact W9.lopC | fail) : LOp C o σ e ro := h
section steps
variable {C : Ctx} {ops : Array Oper} {o : Oper} {rest : List Oper} {K : St → Prop} {σ : St} {e : Eff} {ro : Nat → Bool} {W : List (Nat × Nat)} {i : Nat}
theorem rnC {d : Nat} (hk : RunN C ops rest K (e.app (some d) σ)) (hg : Guard ops σ o true := by first | exact gd_n rfl rfl | exact gd_t rfl rfl rfl rfl | exact gd_t rfl rfl rfl (by assumption)) (hd : o.dst = some d := by rfl) (h : LOp C o σ e ro := by exact lopC) : RunN C ops (o :: rest) K σ := rn_any hg hd h hk
theorem rkC {d : Nat} (hk : RunK C ops W (i + 1) rest K (e.app (some d) σ)) (hg : Guard ops σ o true := by first | exact gd_n rfl rfl | exact gd_t rfl rfl rfl rfl | exact gd_t rfl rfl rfl (by assumption)) (hd' : o.dst = some d := by rfl) (hd : dOk C o.dst = true := by rfl) (h : LOp C o σ e ro := by exact lopC)
    (hro : ∀ x, ro x = true → okObj ops W i x = true := by first | exact fun _ => ro_none | exact ro_one rfl | exact ro_k1 rfl | exact ro_one (by kernel_rfl) | exact ro_k1 (by kernel_rfl) | exact ro_kIn (by decide)) (hob : ∀ p ∈ e.obj, (i, p.1) ∈ W := by first | exact ob_none | exact ob_one (by decide) | decide) : RunK C ops W i (o :: rest) K σ := rk_wr hg hd' hd h hro hob hk
end steps
end PW9
theorem refSame10_w (l : List Kd) (ex ey : Bool) (hl : l.length ≤ 1000000000) (hin : ∀ k ∈ l, KdI k) (hf : ∀ k ∈ l, k.2.2.length ≤ 1000000000) : PCall Tryz.prog 15 [.p (.sl 10 (l.map kR) ex), .p (.sl 10 (l.map kR) ey)] (.p (.b true)) := by
  refine pcall_of Tryz.func15 rfl (fun w0 F S0 M0 => ?_)
  have d0 : decide ((l.length : Int) ≠ (l.length : Int)) = false := decide_eq_false fun h => h rfl
  open PW9 in
  repeat' (first | refine rnC ?_ | refine rnSB ?_ | refine rnG ?_ | refine rnU ?_ | refine rkC ?_ | refine rkSB ?_ | refine rkF ?_ | refine rkU ?_ | refine stp ?_ | refine ifT ?_ | refine ifF ?_ | fail)
  refine aws_loopS (0 :: 1 :: [4, 5, 11, 12, 13, 14, 15, 16, 17, 18, 19, 20, 21, 22, 23, 24, 25, 26, 27, 28, 29, 30, 31, 32, 33, 34, 35, 36, 37, 38, 39, 40, 41]) [] (fun (x : Nat) => [(5, .p (.i x)), (0, .p (.sl 10 (l.map kR) ex)), (1, .p (.sl 10 (l.map kR) ey))]) (fun x => []) (fun x => x ≤ l.length) (fun x => l.length - x) 0 (Nat.zero_le _) (by exact knA) (by exact knA) ?_
  rintro i β γ hi
  by_cases hil : i < l.length
  · have d1 : decide ((i : Int) < (l.length : Int)) = true := decide_eq_true (by omega)
    have hm : l.getD (i : Int).toNat default ∈ l := by rw [Int.toNat_natCast, getD_at hil]; exact List.getElem_mem _
    have hk := hin _ hm
    have okx := hk.key
    have c1 := Cr.same_r (l.getD (i : Int).toNat default).2.1 (l.getD (i : Int).toNat default).2.1 (l.getD (i : Int).toNat default).2.2 (l.getD (i : Int).toNat default).2.2 false false hk.vec.1 hk.vec.1 (hf _ hm)
    rw [show ∀ (v : List Int) (l : List Ent), sameF v v l l = true by intro v l; simp [sameF]] at c1
    haveI : PC Tryz.prog 62 [cV (l.getD (i : Int).toNat default).2.1 (l.getD (i : Int).toNat default).2.2 false, cV (l.getD (i : Int).toNat default).2.1 (l.getD (i : Int).toNat default).2.2 false] True (.p (.b true)) := ⟨fun _ => c1⟩
    have d2 : (!decide ((l.getD (i : Int).toNat default).1 = (l.getD (i : Int).toNat default).1)) = false := by rw [decide_eq_true rfl]; rfl
    clear c1 hk hm hin hf
    open PW9 in
    as_aux_lemma =>
      repeat' (first | refine rnC ?_ | refine rnSB ?_ | refine rnG ?_ | refine rnU ?_ | refine rkC ?_ | refine rkSB ?_ | refine rkF ?_ | refine rkU ?_ | refine stp ?_ | refine aws_draws [] mixed (by kernel_rfl) ?_ | refine ifT ?_ | refine ifF ?_ | fail)
      exact ⟨i + 1, _, by omega, by omega, .refl, by exact frA⟩
  · have d1 : decide ((i : Int) < (l.length : Int)) = false := decide_eq_false (by omega)
    open PW9 in
    as_aux_lemma =>
      repeat' (first | refine rnC ?_ | refine rnSB ?_ | refine rnG ?_ | refine rnU ?_ | refine rkC ?_ | refine rkSB ?_ | refine rkF ?_ | refine rkU ?_ | refine stp ?_ | refine ifT ?_ | refine ifF ?_ | fail)
      exact rt1 rfl rfl finS_p rfl
end Go.Proofs.YtlaeldgebecppaaGreat.Wi
