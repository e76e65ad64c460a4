/- the reference: texts compared; the reference, chapters 03 and 06: dots, nodes, how entries stand to each other; the reference, chapter 06: entries in order, one by one; entries and carts as the reference's -/
import Derived.Test.YtlaeldgebecppaaGreatPT34
import Derived.Test.YtlaeldgebecppaaGreatPT14
namespace Go.Proofs.YtlaeldgebecppaaGreat.Wi
open Go Go.RowKit Go.Aw Go.Aw.Cart Go.Proofs.YtlaeldgebecppaaGreat.Ca
set_option linter.unusedVariables false
set_option linter.unusedSimpArgs false
set_option maxRecDepth 8000
set_option maxHeartbeats 4000000
theorem drop_at {a : List Nat} {i : Nat} (h : i < a.length) : a.drop i = a.getD i default :: a.drop (i + 1) := by
  rw [List.drop_eq_getElem_cons h, List.getD_eq_getElem?_getD, List.getElem?_eq_getElem h]; rfl
namespace PW7
theorem lopC {C : Ctx} {o : Oper} {σ : St} {e : Eff} {ro : Nat → Bool} (h : LOp C o σ e ro := by
    first | (apply lop_ix_sb; (focus rfl); (focus exact inferInstance); (focus rfl); (focus assumption); (focus rfl); (focus omega); (focus omega); (focus rfl)) | exact W9.lopC | fail) : LOp C o σ e ro := h
section steps
variable {C : Ctx} {ops : Array Oper} {o : Oper} {rest : List Oper} {K : St → Prop} {σ : St} {e : Eff} {ro : Nat → Bool} {W : List (Nat × Nat)} {i : Nat}
theorem rnC {d : Nat} (hk : RunN C ops rest K (e.app (some d) σ)) (hg : Guard ops σ o true := by first | exact gd_n rfl rfl | exact gd_t rfl rfl rfl rfl | exact gd_t rfl rfl rfl (by assumption)) (hd : o.dst = some d := by rfl) (h : LOp C o σ e ro := by exact lopC) : RunN C ops (o :: rest) K σ := rn_any hg hd h hk
theorem rkC {d : Nat} (hk : RunK C ops W (i + 1) rest K (e.app (some d) σ)) (hg : Guard ops σ o true := by first | exact gd_n rfl rfl | exact gd_t rfl rfl rfl rfl | exact gd_t rfl rfl rfl (by assumption)) (hd' : o.dst = some d := by rfl) (hd : dOk C o.dst = true := by rfl) (h : LOp C o σ e ro := by exact lopC)
    (hro : ∀ x, ro x = true → okObj ops W i x = true := by first | exact fun _ => ro_none | exact ro_one rfl | exact ro_k1 rfl | exact ro_one (by kernel_rfl) | exact ro_k1 (by kernel_rfl) | exact ro_kIn (by decide)) (hob : ∀ p ∈ e.obj, (i, p.1) ∈ W := by first | exact ob_none | exact ob_one (by decide) | decide) : RunK C ops W i (o :: rest) K σ := rk_wr hg hd' hd h hro hob hk
end steps
end PW7
theorem refLess_w (a b : List Nat) (ha : okB a) (hb : okB b) (hal : a.length ≤ 9223372036854775807) (hbl : b.length ≤ 9223372036854775807) : PCall Tryz.prog 95 [.p (.v (.string (strOf a))), .p (.v (.string (strOf b)))] (.p (.b (bLt a b))) := by
  refine pcall_of Tryz.func95 rfl (fun w0 F S0 M0 => ?_)
  obtain ⟨R, hR⟩ : ∃ R, R = bLt a b := ⟨_, rfl⟩
  rw [← hR]
  open PW7 in
  repeat' (first | refine rnC ?_ | refine rnSB ?_ | refine rnG ?_ | refine rnU ?_ | ((fail_if_success (refine rnKn ?_)); refine rnP ?_ ?_ <;> (intro hq; try (have hq' := hq; simp only [hqs] at hq'))) | refine rkC ?_ | refine rkSB ?_ | refine rkF ?_ | refine rkU ?_ | ((fail_if_success (refine rkKn ?_)); refine rkP ?_ ?_ <;> (intro hq; try (have hq' := hq; simp only [hqs] at hq'))) | refine stp ?_ | refine ifT ?_ | refine ifF ?_ | (refine ifQ ?_ ?_ <;> (try (intro hn))) | (refine ifB ?_ ?_ <;> (intro hq; try (have hq' := hq; simp only [hqs] at hq'))))
  refine aws_loopS (0 :: 1 :: [4, 5, 6, 7, 8, 9, 10, 11, 12, 13, 14, 15, 16, 17, 18, 19, 20, 21, 22, 23, 24, 25, 26, 27, 28, 29, 30, 31]) [] (fun (i : Nat) => [(5, .p (.i i)), (0, .p (.v (.string (strOf a)))), (1, .p (.v (.string (strOf b))))]) (fun _ => []) (fun i => i ≤ a.length ∧ i ≤ b.length ∧ R = bLt (a.drop i) (b.drop i)) (fun i => a.length - i) 0 ⟨Nat.zero_le _, Nat.zero_le _, hR⟩ (by exact knA) (by exact knA) ?_
  rintro i β γ ⟨hia, hib, hx⟩
  clear hR
  by_cases h1 : i < a.length
  · have d1 : decide ((i : Int) < (a.length : Int)) = true := decide_eq_true (by omega)
    by_cases h2 : i < b.length
    · have d2 : decide ((i : Int) < (b.length : Int)) = true := decide_eq_true (by omega)
      rw [drop_at h1, drop_at h2] at hx
      rw [show a.getD i default = a.getD (i : Int).toNat default by rw [Int.toNat_natCast], show b.getD i default = b.getD (i : Int).toNat default by rw [Int.toNat_natCast]] at hx
      by_cases he : a.getD (i : Int).toNat default = b.getD (i : Int).toNat default
      · have d3 : decide (((a.getD (i : Int).toNat default : Nat) : Int) ≠ ((b.getD (i : Int).toNat default : Nat) : Int)) = false := decide_eq_false fun q => q (by omega)
        have hx2 : R = bLt (a.drop (i + 1)) (b.drop (i + 1)) := by
          rw [hx, he, bLt]; simp
        clear hx
        open PW7 in
        as_aux_lemma =>
          repeat' (first | refine rnC ?_ | refine rnSB ?_ | refine rnG ?_ | refine rnU ?_ | ((fail_if_success (refine rnKn ?_)); refine rnP ?_ ?_ <;> (intro hq; try (have hq' := hq; simp only [hqs] at hq'))) | refine rkC ?_ | refine rkSB ?_ | refine rkF ?_ | refine rkU ?_ | ((fail_if_success (refine rkKn ?_)); refine rkP ?_ ?_ <;> (intro hq; try (have hq' := hq; simp only [hqs] at hq'))) | refine stp ?_ | refine aws_draws [] mixed (by kernel_rfl) ?_ | refine ifT ?_ | refine ifF ?_ | (refine ifQ ?_ ?_ <;> (try (intro hn))) | (refine ifB ?_ ?_ <;> (intro hq; try (have hq' := hq; simp only [hqs] at hq'))))
          exact ⟨i + 1, _, by omega, ⟨by omega, by omega, hx2⟩, .refl, by exact frA⟩
      · have d3 : decide (((a.getD (i : Int).toNat default : Nat) : Int) ≠ ((b.getD (i : Int).toNat default : Nat) : Int)) = true := decide_eq_true fun q => he (by omega)
        have hx2 : R = decide (((a.getD (i : Int).toNat default : Nat) : Int) < ((b.getD (i : Int).toNat default : Nat) : Int)) := by
          rw [hx, bLt, if_neg he]
          exact decide_eq_decide.2 (by omega)
        rw [hx2]
        clear hx hx2
        open PW7 in
        as_aux_lemma =>
          repeat' (first | refine rnC ?_ | refine rnSB ?_ | refine rnG ?_ | refine rnU ?_ | ((fail_if_success (refine rnKn ?_)); refine rnP ?_ ?_ <;> (intro hq; try (have hq' := hq; simp only [hqs] at hq'))) | refine rkC ?_ | refine rkSB ?_ | refine rkF ?_ | refine rkU ?_ | ((fail_if_success (refine rkKn ?_)); refine rkP ?_ ?_ <;> (intro hq; try (have hq' := hq; simp only [hqs] at hq'))) | refine stp ?_ | refine aws_draws [] mixed (by kernel_rfl) ?_ | refine ifT ?_ | refine ifF ?_ | (refine ifQ ?_ ?_ <;> (try (intro hn))) | (refine ifB ?_ ?_ <;> (intro hq; try (have hq' := hq; simp only [hqs] at hq'))))
          exact rt1 rfl rfl finS_p rfl
    · have d2 : decide ((i : Int) < (b.length : Int)) = false := decide_eq_false (by omega)
      have hx2 : R = decide ((a.length : Int) < (b.length : Int)) := by
        rw [hx, List.drop_of_length_le (by omega : b.length ≤ i), decide_eq_false (by omega)]
        cases a.drop i <;> rfl
      rw [hx2]
      clear hx hx2
      open PW7 in
      as_aux_lemma =>
        repeat' (first | refine rnC ?_ | refine rnSB ?_ | refine rnG ?_ | refine rnU ?_ | ((fail_if_success (refine rnKn ?_)); refine rnP ?_ ?_ <;> (intro hq; try (have hq' := hq; simp only [hqs] at hq'))) | refine rkC ?_ | refine rkSB ?_ | refine rkF ?_ | refine rkU ?_ | ((fail_if_success (refine rkKn ?_)); refine rkP ?_ ?_ <;> (intro hq; try (have hq' := hq; simp only [hqs] at hq'))) | refine stp ?_ | refine ifT ?_ | refine ifF ?_ | (refine ifQ ?_ ?_ <;> (try (intro hn))) | (refine ifB ?_ ?_ <;> (intro hq; try (have hq' := hq; simp only [hqs] at hq'))))
        exact rt1 rfl rfl finS_p rfl
  · have d1 : decide ((i : Int) < (a.length : Int)) = false := decide_eq_false (by omega)
    have hx2 : R = decide ((a.length : Int) < (b.length : Int)) := by
      rw [hx, List.drop_of_length_le (by omega : a.length ≤ i)]
      by_cases h2 : i < b.length
      · rw [drop_at h2, decide_eq_true (by omega)]; rfl
      · rw [List.drop_of_length_le (by omega : b.length ≤ i), decide_eq_false (by omega)]; rfl
    rw [hx2]
    clear hx hx2
    open PW7 in
    as_aux_lemma =>
      repeat' (first | refine rnC ?_ | refine rnSB ?_ | refine rnG ?_ | refine rnU ?_ | ((fail_if_success (refine rnKn ?_)); refine rnP ?_ ?_ <;> (intro hq; try (have hq' := hq; simp only [hqs] at hq'))) | refine rkC ?_ | refine rkSB ?_ | refine rkF ?_ | refine rkU ?_ | ((fail_if_success (refine rkKn ?_)); refine rkP ?_ ?_ <;> (intro hq; try (have hq' := hq; simp only [hqs] at hq'))) | refine stp ?_ | refine ifT ?_ | refine ifF ?_ | (refine ifQ ?_ ?_ <;> (try (intro hn))) | (refine ifB ?_ ?_ <;> (intro hq; try (have hq' := hq; simp only [hqs] at hq'))))
      exact rt1 rfl rfl finS_p rfl
end Go.Proofs.YtlaeldgebecppaaGreat.Wi
namespace Go.Proofs.YtlaeldgebecppaaGreat.Cr
open Go Go.RowKit Go.Aw Go.Aw.Cart Go.Aw.Ord Go.Proofs.YtlaeldgebecppaaGreat.Ca
set_option linter.unusedVariables false
set_option linter.unusedSimpArgs false
set_option maxRecDepth 8000
set_option maxHeartbeats 4000000
theorem dotR_r (d : Dot) : PCall Tryz.prog 200 [dV d] (.p (.b (dotF d))) := by
  refine pcall_of Tryz.func200 rfl (fun w0 F S0 M0 => ?_)
  unfold dotF
  repeat' (first | refine rnJ ?_ | refine rnSB ?_ | refine rnG ?_ | refine rnU ?_ | ((fail_if_success (refine rnKn ?_)); refine rnP ?_ ?_ <;> (intro hq; try (have hq' := hq; simp only [hqs] at hq'))) | refine rkJ ?_ | refine rkSB ?_ | refine rkF ?_ | refine rkU ?_ | ((fail_if_success (refine rkKn ?_)); refine rkP ?_ ?_ <;> (intro hq; try (have hq' := hq; simp only [hqs] at hq'))) | refine stp ?_ | refine aws_draws [] mixed (by kernel_rfl) ?_ | refine ifT ?_ | refine ifF ?_ | (refine ifQ ?_ ?_ <;> (try (intro hn))) | (refine ifB ?_ ?_ <;> (intro hq; try (have hq' := hq; simp only [hqs] at hq'))))
  all_goals refine rt1 rfl rfl finS_p (rb ?_)
  all_goals first | exact decide_eq_decide.2 (by omega) | exact decide_eq_true (by omega) | exact decide_eq_false (by omega)
instance {d : Dot} : PC Tryz.prog 200 [dV d] True (.p (.b (dotF d))) := ⟨fun _ => dotR_r d⟩
theorem get_r (v : List Int) (n : Int) (hv : v.length = 8) : PCall Tryz.prog 201 [vV v, .p (.i n)] (.p (.k .u64 (getF v n))) := by
  refine pcall_of Tryz.func201 rfl (fun w0 F S0 M0 => ?_)
  repeat' (first | refine rnJ ?_ | refine rnSB ?_ | refine rnG ?_ | refine rnU ?_ | ((fail_if_success (refine rnKn ?_)); refine rnP ?_ ?_ <;> (intro hq; try (have hq' := hq; simp only [hqs] at hq'))) | refine rkJ ?_ | refine rkSB ?_ | refine rkF ?_ | refine rkU ?_ | ((fail_if_success (refine rkKn ?_)); refine rkP ?_ ?_ <;> (intro hq; try (have hq' := hq; simp only [hqs] at hq'))) | refine stp ?_ | refine aws_draws [] mixed (by kernel_rfl) ?_ | refine ifT ?_ | refine ifF ?_ | (refine ifQ ?_ ?_ <;> (try (intro hn))) | (refine ifB ?_ ?_ <;> (intro hq; try (have hq' := hq; simp only [hqs] at hq'))))
  refine aws_loopS [4, 5, 6, 7, 8, 9, 10, 11, 12, 13, 14, 15, 16] [] (fun (i : Nat) => [(5, .p (.i i))]) (fun _ => []) (fun i => i ≤ 8 ∧ ∀ j : Nat, j < i → (j : Int) + 1 ≠ n) (fun i => 8 - i) 0 ⟨Nat.zero_le _, fun j hj => absurd hj (Nat.not_lt_zero _)⟩ (by exact knA) (by exact knA) ?_
  rintro i β γ ⟨hi, hx⟩
  by_cases h8 : i < 8
  · have d1 : decide ((i : Int) < 8) = true := decide_eq_true (by omega)
    by_cases hn : (i : Int) + 1 = n
    · have d2 : decide ((i : Int) + 1 = n) = true := decide_eq_true hn
      have e : getF v n = v.getD (i : Int).toNat default := by
        unfold getF
        rw [if_pos (by omega)]
        congr 1
        omega
      rw [e]
      repeat' (first | refine rnJ ?_ | refine rnSB ?_ | refine rnG ?_ | refine rnU ?_ | ((fail_if_success (refine rnKn ?_)); refine rnP ?_ ?_ <;> (intro hq; try (have hq' := hq; simp only [hqs] at hq'))) | refine rkJ ?_ | refine rkSB ?_ | refine rkF ?_ | refine rkU ?_ | ((fail_if_success (refine rkKn ?_)); refine rkP ?_ ?_ <;> (intro hq; try (have hq' := hq; simp only [hqs] at hq'))) | refine stp ?_ | refine aws_draws [] mixed (by kernel_rfl) ?_ | refine ifT ?_ | refine ifF ?_ | (refine ifQ ?_ ?_ <;> (try (intro hn))) | (refine ifB ?_ ?_ <;> (intro hq; try (have hq' := hq; simp only [hqs] at hq'))))
      exact rt1 rfl rfl finS_p rfl
    · have d2 : decide ((i : Int) + 1 = n) = false := decide_eq_false hn
      repeat' (first | refine rnJ ?_ | refine rnSB ?_ | refine rnG ?_ | refine rnU ?_ | ((fail_if_success (refine rnKn ?_)); refine rnP ?_ ?_ <;> (intro hq; try (have hq' := hq; simp only [hqs] at hq'))) | refine rkJ ?_ | refine rkSB ?_ | refine rkF ?_ | refine rkU ?_ | ((fail_if_success (refine rkKn ?_)); refine rkP ?_ ?_ <;> (intro hq; try (have hq' := hq; simp only [hqs] at hq'))) | refine stp ?_ | refine aws_draws [] mixed (by kernel_rfl) ?_ | refine ifT ?_ | refine ifF ?_ | (refine ifQ ?_ ?_ <;> (try (intro hn))) | (refine ifB ?_ ?_ <;> (intro hq; try (have hq' := hq; simp only [hqs] at hq'))))
      refine ⟨i + 1, _, by omega, ⟨by omega, fun j hj => ?_⟩, .refl, by exact frA⟩
      by_cases e : j = i
      · rw [e]; exact hn
      · exact hx j (by omega)
  · have d1 : decide ((i : Int) < 8) = false := decide_eq_false (by omega)
    have e : getF v n = 0 := by
      unfold getF
      rw [if_neg]
      intro k
      exact hx (n - 1).toNat (by omega) (by omega)
    rw [e]
    repeat' (first | refine rnJ ?_ | refine rnSB ?_ | refine rnG ?_ | refine rnU ?_ | ((fail_if_success (refine rnKn ?_)); refine rnP ?_ ?_ <;> (intro hq; try (have hq' := hq; simp only [hqs] at hq'))) | refine rkJ ?_ | refine rkSB ?_ | refine rkF ?_ | refine rkU ?_ | ((fail_if_success (refine rkKn ?_)); refine rkP ?_ ?_ <;> (intro hq; try (have hq' := hq; simp only [hqs] at hq'))) | refine stp ?_ | refine aws_draws [] mixed (by kernel_rfl) ?_ | refine ifT ?_ | refine ifF ?_ | (refine ifQ ?_ ?_ <;> (try (intro hn))) | (refine ifB ?_ ?_ <;> (intro hq; try (have hq' := hq; simp only [hqs] at hq'))))
    exact rt1 rfl rfl finS_p rfl
instance {v : List Int} {n : Int} : PC Tryz.prog 201 [vV v, .p (.i n)] (v.length = 8) (.p (.k .u64 (getF v n))) := ⟨get_r v n⟩
theorem has_r (v : List Int) (d : Dot) (hv : v.length = 8) : PCall Tryz.prog 167 [vV v, dV d] (.p (.b (hasF v d))) := by
  refine pcall_of Tryz.func167 rfl (fun w0 F S0 M0 => ?_)
  unfold hasF
  cases h : dotF d with
  | true =>
    repeat' (first | refine rnJ ?_ | refine rnSB ?_ | refine rnG ?_ | refine rnU ?_ | ((fail_if_success (refine rnKn ?_)); refine rnP ?_ ?_ <;> (intro hq; try (have hq' := hq; simp only [hqs] at hq'))) | refine rkJ ?_ | refine rkSB ?_ | refine rkF ?_ | refine rkU ?_ | ((fail_if_success (refine rkKn ?_)); refine rkP ?_ ?_ <;> (intro hq; try (have hq' := hq; simp only [hqs] at hq'))) | refine stp ?_ | refine aws_draws [] mixed (by kernel_rfl) ?_ | refine ifT ?_ | refine ifF ?_ | (refine ifQ ?_ ?_ <;> (try (intro hn))) | (refine ifB ?_ ?_ <;> (intro hq; try (have hq' := hq; simp only [hqs] at hq'))))
    exact rt1 rfl rfl finS_p rfl
  | false =>
    repeat' (first | refine rnJ ?_ | refine rnSB ?_ | refine rnG ?_ | refine rnU ?_ | ((fail_if_success (refine rnKn ?_)); refine rnP ?_ ?_ <;> (intro hq; try (have hq' := hq; simp only [hqs] at hq'))) | refine rkJ ?_ | refine rkSB ?_ | refine rkF ?_ | refine rkU ?_ | ((fail_if_success (refine rkKn ?_)); refine rkP ?_ ?_ <;> (intro hq; try (have hq' := hq; simp only [hqs] at hq'))) | refine stp ?_ | refine aws_draws [] mixed (by kernel_rfl) ?_ | refine ifT ?_ | refine ifF ?_ | (refine ifQ ?_ ?_ <;> (try (intro hn))) | (refine ifB ?_ ?_ <;> (intro hq; try (have hq' := hq; simp only [hqs] at hq'))))
    exact rt1 rfl rfl finS_p rfl
instance {v : List Int} {d : Dot} : PC Tryz.prog 167 [vV v, dV d] (v.length = 8) (.p (.b (hasF v d))) := ⟨has_r v d⟩
theorem lessD_r (a b : Dot) : PCall Tryz.prog 202 [dV a, dV b] (.p (.b (decide (ltD a b)))) := by
  refine pcall_of Tryz.func202 rfl (fun w0 F S0 M0 => ?_)
  unfold ltD
  repeat' (first | refine rnJ ?_ | refine rnSB ?_ | refine rnG ?_ | refine rnU ?_ | ((fail_if_success (refine rnKn ?_)); refine rnP ?_ ?_ <;> (intro hq; try (have hq' := hq; simp only [hqs] at hq'))) | refine rkJ ?_ | refine rkSB ?_ | refine rkF ?_ | refine rkU ?_ | ((fail_if_success (refine rkKn ?_)); refine rkP ?_ ?_ <;> (intro hq; try (have hq' := hq; simp only [hqs] at hq'))) | refine stp ?_ | refine aws_draws [] mixed (by kernel_rfl) ?_ | refine ifT ?_ | refine ifF ?_ | (refine ifQ ?_ ?_ <;> (try (intro hn))) | (refine ifB ?_ ?_ <;> (intro hq; try (have hq' := hq; simp only [hqs] at hq'))))
  all_goals refine rt1 rfl rfl finS_p (rb ?_)
  all_goals first | exact decide_eq_decide.2 (by omega) | exact decide_eq_true (by omega) | exact decide_eq_false (by omega)
instance {a b : Dot} : PC Tryz.prog 202 [dV a, dV b] True (.p (.b (decide (ltD a b)))) := ⟨fun _ => lessD_r a b⟩
theorem dot_r (e : Ent) : PCall Tryz.prog 168 [eV e] (dV (dotE e)) := by
  refine pcall_of Tryz.func168 rfl (fun w0 F S0 M0 => ?_)
  repeat' (first | refine rnJ ?_ | refine rnSB ?_ | refine rnG ?_ | refine rnU ?_ | ((fail_if_success (refine rnKn ?_)); refine rnP ?_ ?_ <;> (intro hq; try (have hq' := hq; simp only [hqs] at hq'))) | refine rkJ ?_ | refine rkSB ?_ | refine rkF ?_ | refine rkU ?_ | ((fail_if_success (refine rkKn ?_)); refine rkP ?_ ?_ <;> (intro hq; try (have hq' := hq; simp only [hqs] at hq'))) | refine stp ?_ | refine aws_draws [] mixed (by kernel_rfl) ?_ | refine ifT ?_ | refine ifF ?_ | (refine ifQ ?_ ?_ <;> (try (intro hn))) | (refine ifB ?_ ?_ <;> (intro hq; try (have hq' := hq; simp only [hqs] at hq'))))
  exact rc1 rfl rfl rfl rfl rfl rfl finL_p rfl
instance {e : Ent} : PC Tryz.prog 168 [eV e] True (dV (dotE e)) := ⟨fun _ => dot_r e⟩
theorem lessE_r (a b : Ent) : PCall Tryz.prog 169 [eV a, eV b] (.p (.b (decide (ltE a b)))) := by
  refine pcall_of Tryz.func169 rfl (fun w0 F S0 M0 => ?_)
  have hd := vEqD (dotE a) (dotE b)
  by_cases h1 : a.1 = b.1
  · have d1 : decide (a.1 ≠ b.1) = false := decide_eq_false fun q => q h1
    by_cases h2 : dotE a = dotE b
    · rw [decide_eq_true h2] at hd
      have d2 : (!vEqB [.int .i64 (dotE a).1, .int .u64 (dotE a).2] [.int .i64 (dotE b).1, .int .u64 (dotE b).2]) = false := by rw [hd]; rfl
      have e : decide (ltE a b) = decide (a.2.2.2 < b.2.2.2) := decide_eq_decide.2 (by unfold ltE; unfold dotE at h2; simp only [Prod.mk.injEq] at h2; omega)
      rw [e]
      repeat' (first | refine rnJ ?_ | refine rnSB ?_ | refine rnG ?_ | refine rnU ?_ | ((fail_if_success (refine rnKn ?_)); refine rnP ?_ ?_ <;> (intro hq; try (have hq' := hq; simp only [hqs] at hq'))) | refine rkJ ?_ | refine rkSB ?_ | refine rkF ?_ | refine rkU ?_ | ((fail_if_success (refine rkKn ?_)); refine rkP ?_ ?_ <;> (intro hq; try (have hq' := hq; simp only [hqs] at hq'))) | refine stp ?_ | refine aws_draws [] mixed (by kernel_rfl) ?_ | refine ifT ?_ | refine ifF ?_ | (refine ifQ ?_ ?_ <;> (try (intro hn))) | (refine ifB ?_ ?_ <;> (intro hq; try (have hq' := hq; simp only [hqs] at hq'))))
      exact rt1 rfl rfl finS_p rfl
    · rw [decide_eq_false h2] at hd
      have d2 : (!vEqB [.int .i64 (dotE a).1, .int .u64 (dotE a).2] [.int .i64 (dotE b).1, .int .u64 (dotE b).2]) = true := by rw [hd]; rfl
      have e : decide (ltE a b) = decide (ltD (dotE a) (dotE b)) := decide_eq_decide.2 (by unfold ltE ltD; unfold dotE at *; simp only [Prod.mk.injEq] at h2 ⊢; omega)
      rw [e]
      repeat' (first | refine rnJ ?_ | refine rnSB ?_ | refine rnG ?_ | refine rnU ?_ | ((fail_if_success (refine rnKn ?_)); refine rnP ?_ ?_ <;> (intro hq; try (have hq' := hq; simp only [hqs] at hq'))) | refine rkJ ?_ | refine rkSB ?_ | refine rkF ?_ | refine rkU ?_ | ((fail_if_success (refine rkKn ?_)); refine rkP ?_ ?_ <;> (intro hq; try (have hq' := hq; simp only [hqs] at hq'))) | refine stp ?_ | refine aws_draws [] mixed (by kernel_rfl) ?_ | refine ifT ?_ | refine ifF ?_ | (refine ifQ ?_ ?_ <;> (try (intro hn))) | (refine ifB ?_ ?_ <;> (intro hq; try (have hq' := hq; simp only [hqs] at hq'))))
      exact rt1 rfl rfl finS_p rfl
  · have d1 : decide (a.1 ≠ b.1) = true := decide_eq_true h1
    have e : decide (ltE a b) = decide (a.1 < b.1) := decide_eq_decide.2 (by unfold ltE; omega)
    rw [e]
    repeat' (first | refine rnJ ?_ | refine rnSB ?_ | refine rnG ?_ | refine rnU ?_ | ((fail_if_success (refine rnKn ?_)); refine rnP ?_ ?_ <;> (intro hq; try (have hq' := hq; simp only [hqs] at hq'))) | refine rkJ ?_ | refine rkSB ?_ | refine rkF ?_ | refine rkU ?_ | ((fail_if_success (refine rkKn ?_)); refine rkP ?_ ?_ <;> (intro hq; try (have hq' := hq; simp only [hqs] at hq'))) | refine stp ?_ | refine aws_draws [] mixed (by kernel_rfl) ?_ | refine ifT ?_ | refine ifF ?_ | (refine ifQ ?_ ?_ <;> (try (intro hn))) | (refine ifB ?_ ?_ <;> (intro hq; try (have hq' := hq; simp only [hqs] at hq'))))
    exact rt1 rfl rfl finS_p rfl
instance {a b : Ent} : PC Tryz.prog 169 [eV a, eV b] True (.p (.b (decide (ltE a b)))) := ⟨fun _ => lessE_r a b⟩
end Go.Proofs.YtlaeldgebecppaaGreat.Cr
namespace Go.Proofs.YtlaeldgebecppaaGreat.Cr
open Go Go.RowKit Go.Aw Go.Aw.Cart Go.Aw.Ord Go.Proofs.YtlaeldgebecppaaGreat.Ca
set_option linter.unusedVariables false
set_option linter.unusedSimpArgs false
set_option maxRecDepth 8000
set_option maxHeartbeats 4000000
theorem lopC {C : Ctx} {o : Oper} {σ : St} {e : Eff} {ro : Nat → Bool} (h : LOp C o σ e ro := by
    first | (apply gField; (focus rfl); exact lop_fieldAddr_p rfl rfl (by decide) rfl rfl) | (apply G.lop_bst2; (focus rfl); (focus exact inferInstance); (focus exact inferInstance); (focus exact inferInstance); (focus rfl); (focus rfl); (focus rfl)) | (apply lop_bst4; (focus rfl); (focus exact inferInstance); (focus exact inferInstance); (focus exact inferInstance); (focus rfl); (focus rfl); (focus rfl)) | (apply lop_ap_ent; (focus rfl); (focus exact inferInstance); (focus exact inferInstance); (focus exact inferInstance); (focus rfl); (focus rfl); (focus rfl); (focus rfl); (focus rfl); (focus rfl); (focus first | (simp only [maxLen, List.length_append, List.length_cons, List.length_nil, List.length_take, List.length_drop, List.length_map]; omega) | omega); (focus first | (simp only [maxLen, List.length_append, List.length_cons, List.length_nil, List.length_take, List.length_drop, List.length_map]; omega) | omega); (focus rfl)) | exact lopV | fail) : LOp C o σ e ro := h
section steps
variable {C : Ctx} {ops : Array Oper} {o : Oper} {rest : List Oper} {K : St → Prop} {σ : St} {e : Eff} {ro : Nat → Bool} {W : List (Nat × Nat)} {i : Nat}
theorem rnC {d : Nat} (hk : RunN C ops rest K (e.app (some d) σ)) (hg : Guard ops σ o true := by first | exact gd_n rfl rfl | exact gd_t rfl rfl rfl rfl | exact gd_t rfl rfl rfl (by assumption)) (hd : o.dst = some d := by rfl) (h : LOp C o σ e ro := by exact lopC) : RunN C ops (o :: rest) K σ := rn_any hg hd h hk
theorem rkC {d : Nat} (hk : RunK C ops W (i + 1) rest K (e.app (some d) σ)) (hg : Guard ops σ o true := by first | exact gd_n rfl rfl | exact gd_t rfl rfl rfl rfl | exact gd_t rfl rfl rfl (by assumption)) (hd' : o.dst = some d := by rfl) (hd : dOk C o.dst = true := by rfl) (h : LOp C o σ e ro := by exact lopC)
    (hro : ∀ x, ro x = true → okObj ops W i x = true := by first | exact fun _ => ro_none | exact ro_one rfl | exact ro_one (by kernel_rfl) | exact ro_kIn (by decide)) (hob : ∀ p ∈ e.obj, (i, p.1) ∈ W := by first | exact ob_none | exact ob_one (by decide) | decide) : RunK C ops W i (o :: rest) K σ := rk_wr hg hd' hd h hro hob hk
end steps
end Go.Proofs.YtlaeldgebecppaaGreat.Cr
