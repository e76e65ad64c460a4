/- the model: which events may be; the model: which lists have an event, unions, dots, and what went off; the model: unions, clashes, and which lists are whole -/
import Derived.Test.YtebjmleheiefdaaGreatG4
namespace Go.Proofs.YtebjmleheiefdaaGreat.Ca
open Go Go.RowKit Go.Aw Go.Aw.Cart Go.Aw.Ord Go.Sort
set_option linter.unusedVariables false
set_option linter.unusedSimpArgs false
set_option maxRecDepth 8000
set_option maxHeartbeats 4000000
open M2
theorem evRight_w (x : Evt) (h : (Evt.off x).length ≤ 1000000000) : PCall Tryz.prog 76 [xV x] (.p (.b (evR x))) := by
  refine pcall_of Tryz.func76 rfl (fun w0 F S0 M0 => ?_)
  have hl : (x.2.2.2.2).length ≤ 1000000000 := h
  haveI : PC Tryz.prog 67 [.a [.p (.i x.1), .p (.i x.2.1), .p (.i x.2.2.1)]] True (.p (.b (mayF (x.1, x.2.1, x.2.2.1)))) := ⟨fun _ => may_w (x.1, x.2.1, x.2.2.1)⟩
  cases hr : dRightF (Evt.off x) with
  | false =>
    have d1 : (!dRightF x.2.2.2.2) = true := by rw [hr]; rfl
    rw [show evR x = false by unfold evR; rw [hr]; rfl]
    as_aux_lemma =>
      repeat' (first | refine rnC ?_ | refine rnSB ?_ | refine rnG ?_ | refine rnU ?_ | ((fail_if_success (refine rnKn ?_)); refine rnP ?_ ?_ <;> (intro hq; try (have hq' := hq; simp only [hqs] at hq'))) | refine rkC ?_ | refine rkSB ?_ | refine rkF ?_ | refine rkU ?_ | ((fail_if_success (refine rkKn ?_)); refine rkP ?_ ?_ <;> (intro hq; try (have hq' := hq; simp only [hqs] at hq'))) | refine stp ?_ | refine aws_draws [] mixed (by kernel_rfl) ?_ | refine ifT ?_ | refine ifF ?_ | (refine ifQ ?_ ?_ <;> (try (intro hn))) | (refine ifB ?_ ?_ <;> (intro hq; try (have hq' := hq; simp only [hqs] at hq'))))
      exact rt1 rfl rfl finS_p rfl
  | true =>
    have d1 : (!dRightF x.2.2.2.2) = false := by rw [hr]; rfl
    by_cases hm : Evt.dot x ∈ Evt.off x
    · have d2 : decide (x.2.2.2.1 ∈ x.2.2.2.2) = true := decide_eq_true hm
      rw [show evR x = false by unfold evR; rw [decide_eq_true hm, hr]; rfl]
      as_aux_lemma =>
        repeat' (first | refine rnC ?_ | refine rnSB ?_ | refine rnG ?_ | refine rnU ?_ | ((fail_if_success (refine rnKn ?_)); refine rnP ?_ ?_ <;> (intro hq; try (have hq' := hq; simp only [hqs] at hq'))) | refine rkC ?_ | refine rkSB ?_ | refine rkF ?_ | refine rkU ?_ | ((fail_if_success (refine rkKn ?_)); refine rkP ?_ ?_ <;> (intro hq; try (have hq' := hq; simp only [hqs] at hq'))) | refine stp ?_ | refine aws_draws [] mixed (by kernel_rfl) ?_ | refine ifT ?_ | refine ifF ?_ | (refine ifQ ?_ ?_ <;> (try (intro hn))) | (refine ifB ?_ ?_ <;> (intro hq; try (have hq' := hq; simp only [hqs] at hq'))))
        exact rt1 rfl rfl finS_p rfl
    · have d2 : decide (x.2.2.2.1 ∈ x.2.2.2.2) = false := decide_eq_false hm
      have er : evR x = (!(decide (x.1 = 1) && decide (0 < (Evt.off x).length)) && (if addsE x = true then mayF (x.1, x.2.1, x.2.2.1) && dotF (Evt.dot x) else decide ((x.1 = 3 ∨ x.1 = 4) ∧ x.2.1 = 0 ∧ x.2.2.1 = 0 ∧ Evt.dot x = (0, 0)))) := by
        unfold evR; rw [decide_eq_false hm, hr]; rfl
      cases ha : addsE x with
      | true =>
        rw [ha, if_pos rfl] at er
        by_cases h1 : x.1 = 1
        · have d3 : decide (x.1 = 1) = true := decide_eq_true h1
          by_cases h0 : 0 < (Evt.off x).length
          · have d4 : decide (0 < (x.2.2.2.2.length : Int)) = true := decide_eq_true (by have h0' : 0 < x.2.2.2.2.length := h0; omega)
            rw [show evR x = false by rw [er, d3, decide_eq_true h0]; rfl]
            as_aux_lemma =>
              repeat' (first | refine rnC ?_ | refine rnSB ?_ | refine rnG ?_ | refine rnU ?_ | ((fail_if_success (refine rnKn ?_)); refine rnP ?_ ?_ <;> (intro hq; try (have hq' := hq; simp only [hqs] at hq'))) | refine rkC ?_ | refine rkSB ?_ | refine rkF ?_ | refine rkU ?_ | ((fail_if_success (refine rkKn ?_)); refine rkP ?_ ?_ <;> (intro hq; try (have hq' := hq; simp only [hqs] at hq'))) | refine stp ?_ | refine aws_draws [] mixed (by kernel_rfl) ?_ | refine ifT ?_ | refine ifF ?_ | (refine ifQ ?_ ?_ <;> (try (intro hn))) | (refine ifB ?_ ?_ <;> (intro hq; try (have hq' := hq; simp only [hqs] at hq'))))
              exact rt1 rfl rfl finS_p rfl
          · have d4 : decide (0 < (x.2.2.2.2.length : Int)) = false := decide_eq_false (by have h0' : ¬ 0 < x.2.2.2.2.length := h0; omega)
            rw [d3, decide_eq_false h0] at er
            rw [er]
            cases hq : mayF (x.1, x.2.1, x.2.2.1) with
            | true =>
              as_aux_lemma =>
                repeat' (first | refine rnC ?_ | refine rnSB ?_ | refine rnG ?_ | refine rnU ?_ | ((fail_if_success (refine rnKn ?_)); refine rnP ?_ ?_ <;> (intro hq; try (have hq' := hq; simp only [hqs] at hq'))) | refine rkC ?_ | refine rkSB ?_ | refine rkF ?_ | refine rkU ?_ | ((fail_if_success (refine rkKn ?_)); refine rkP ?_ ?_ <;> (intro hq; try (have hq' := hq; simp only [hqs] at hq'))) | refine stp ?_ | refine aws_draws [] mixed (by kernel_rfl) ?_ | refine ifT ?_ | refine ifF ?_ | (refine ifQ ?_ ?_ <;> (try (intro hn))) | (refine ifB ?_ ?_ <;> (intro hq; try (have hq' := hq; simp only [hqs] at hq'))))
                exact rt1 rfl rfl finS_p rfl
            | false =>
              as_aux_lemma =>
                repeat' (first | refine rnC ?_ | refine rnSB ?_ | refine rnG ?_ | refine rnU ?_ | ((fail_if_success (refine rnKn ?_)); refine rnP ?_ ?_ <;> (intro hq; try (have hq' := hq; simp only [hqs] at hq'))) | refine rkC ?_ | refine rkSB ?_ | refine rkF ?_ | refine rkU ?_ | ((fail_if_success (refine rkKn ?_)); refine rkP ?_ ?_ <;> (intro hq; try (have hq' := hq; simp only [hqs] at hq'))) | refine stp ?_ | refine aws_draws [] mixed (by kernel_rfl) ?_ | refine ifT ?_ | refine ifF ?_ | (refine ifQ ?_ ?_ <;> (try (intro hn))) | (refine ifB ?_ ?_ <;> (intro hq; try (have hq' := hq; simp only [hqs] at hq'))))
                exact rt1 rfl rfl finS_p rfl
        · have d3 : decide (x.1 = 1) = false := decide_eq_false h1
          rw [d3] at er
          rw [er]
          cases hq : mayF (x.1, x.2.1, x.2.2.1) with
          | true =>
            as_aux_lemma =>
              repeat' (first | refine rnC ?_ | refine rnSB ?_ | refine rnG ?_ | refine rnU ?_ | ((fail_if_success (refine rnKn ?_)); refine rnP ?_ ?_ <;> (intro hq; try (have hq' := hq; simp only [hqs] at hq'))) | refine rkC ?_ | refine rkSB ?_ | refine rkF ?_ | refine rkU ?_ | ((fail_if_success (refine rkKn ?_)); refine rkP ?_ ?_ <;> (intro hq; try (have hq' := hq; simp only [hqs] at hq'))) | refine stp ?_ | refine aws_draws [] mixed (by kernel_rfl) ?_ | refine ifT ?_ | refine ifF ?_ | (refine ifQ ?_ ?_ <;> (try (intro hn))) | (refine ifB ?_ ?_ <;> (intro hq; try (have hq' := hq; simp only [hqs] at hq'))))
              exact rt1 rfl rfl finS_p rfl
          | false =>
            as_aux_lemma =>
              repeat' (first | refine rnC ?_ | refine rnSB ?_ | refine rnG ?_ | refine rnU ?_ | ((fail_if_success (refine rnKn ?_)); refine rnP ?_ ?_ <;> (intro hq; try (have hq' := hq; simp only [hqs] at hq'))) | refine rkC ?_ | refine rkSB ?_ | refine rkF ?_ | refine rkU ?_ | ((fail_if_success (refine rkKn ?_)); refine rkP ?_ ?_ <;> (intro hq; try (have hq' := hq; simp only [hqs] at hq'))) | refine stp ?_ | refine aws_draws [] mixed (by kernel_rfl) ?_ | refine ifT ?_ | refine ifF ?_ | (refine ifQ ?_ ?_ <;> (try (intro hn))) | (refine ifB ?_ ?_ <;> (intro hq; try (have hq' := hq; simp only [hqs] at hq'))))
              exact rt1 rfl rfl finS_p rfl
      | false =>
        have h12 := of_decide_eq_false ha
        have h1 : x.1 ≠ 1 := fun k => h12 (.inl k)
        have d3 : decide (x.1 = 1) = false := decide_eq_false h1
        rw [ha, if_neg (by simp), d3, Bool.false_and, Bool.not_false, Bool.true_and] at er
        rw [er]
        have e4 := vEqD (Evt.dot x) (0, 0)
        by_cases h3 : x.1 = 3 ∨ x.1 = 4
        · by_cases hi : x.2.1 = 0
          · have d5 : decide (x.2.1 = 0) = true := decide_eq_true hi
            by_cases hq : x.2.2.1 = 0
            · have d6 : decide (x.2.2.1 = 0) = true := decide_eq_true hq
              rw [show decide ((x.1 = 3 ∨ x.1 = 4) ∧ x.2.1 = 0 ∧ x.2.2.1 = 0 ∧ Evt.dot x = (0, 0)) = decide (Evt.dot x = (0, 0)) from decide_eq_decide.2 ⟨fun k => k.2.2.2, fun k => ⟨h3, hi, hq, k⟩⟩, ← e4]
              rcases h3 with h3 | h3
              · have d7 : decide (x.1 = 3) = true := decide_eq_true h3
                as_aux_lemma =>
                  repeat' (first | refine rnC ?_ | refine rnSB ?_ | refine rnG ?_ | refine rnU ?_ | ((fail_if_success (refine rnKn ?_)); refine rnP ?_ ?_ <;> (intro hq; try (have hq' := hq; simp only [hqs] at hq'))) | refine rkC ?_ | refine rkSB ?_ | refine rkF ?_ | refine rkU ?_ | ((fail_if_success (refine rkKn ?_)); refine rkP ?_ ?_ <;> (intro hq; try (have hq' := hq; simp only [hqs] at hq'))) | refine stp ?_ | refine aws_draws [] mixed (by kernel_rfl) ?_ | refine ifT ?_ | refine ifF ?_ | (refine ifQ ?_ ?_ <;> (try (intro hn))) | (refine ifB ?_ ?_ <;> (intro hq; try (have hq' := hq; simp only [hqs] at hq'))))
                  exact rt1 rfl rfl finS_p rfl
              · have d7 : decide (x.1 = 3) = false := decide_eq_false (by omega)
                have d8 : decide (x.1 = 4) = true := decide_eq_true h3
                as_aux_lemma =>
                  repeat' (first | refine rnC ?_ | refine rnSB ?_ | refine rnG ?_ | refine rnU ?_ | ((fail_if_success (refine rnKn ?_)); refine rnP ?_ ?_ <;> (intro hq; try (have hq' := hq; simp only [hqs] at hq'))) | refine rkC ?_ | refine rkSB ?_ | refine rkF ?_ | refine rkU ?_ | ((fail_if_success (refine rkKn ?_)); refine rkP ?_ ?_ <;> (intro hq; try (have hq' := hq; simp only [hqs] at hq'))) | refine stp ?_ | refine aws_draws [] mixed (by kernel_rfl) ?_ | refine ifT ?_ | refine ifF ?_ | (refine ifQ ?_ ?_ <;> (try (intro hn))) | (refine ifB ?_ ?_ <;> (intro hq; try (have hq' := hq; simp only [hqs] at hq'))))
                  exact rt1 rfl rfl finS_p rfl
            · have d6 : decide (x.2.2.1 = 0) = false := decide_eq_false hq
              rw [decide_eq_false (fun k => hq k.2.2.1)]
              rcases h3 with h3 | h3
              · have d7 : decide (x.1 = 3) = true := decide_eq_true h3
                as_aux_lemma =>
                  repeat' (first | refine rnC ?_ | refine rnSB ?_ | refine rnG ?_ | refine rnU ?_ | ((fail_if_success (refine rnKn ?_)); refine rnP ?_ ?_ <;> (intro hq; try (have hq' := hq; simp only [hqs] at hq'))) | refine rkC ?_ | refine rkSB ?_ | refine rkF ?_ | refine rkU ?_ | ((fail_if_success (refine rkKn ?_)); refine rkP ?_ ?_ <;> (intro hq; try (have hq' := hq; simp only [hqs] at hq'))) | refine stp ?_ | refine aws_draws [] mixed (by kernel_rfl) ?_ | refine ifT ?_ | refine ifF ?_ | (refine ifQ ?_ ?_ <;> (try (intro hn))) | (refine ifB ?_ ?_ <;> (intro hq; try (have hq' := hq; simp only [hqs] at hq'))))
                  exact rt1 rfl rfl finS_p rfl
              · have d7 : decide (x.1 = 3) = false := decide_eq_false (by omega)
                have d8 : decide (x.1 = 4) = true := decide_eq_true h3
                as_aux_lemma =>
                  repeat' (first | refine rnC ?_ | refine rnSB ?_ | refine rnG ?_ | refine rnU ?_ | ((fail_if_success (refine rnKn ?_)); refine rnP ?_ ?_ <;> (intro hq; try (have hq' := hq; simp only [hqs] at hq'))) | refine rkC ?_ | refine rkSB ?_ | refine rkF ?_ | refine rkU ?_ | ((fail_if_success (refine rkKn ?_)); refine rkP ?_ ?_ <;> (intro hq; try (have hq' := hq; simp only [hqs] at hq'))) | refine stp ?_ | refine aws_draws [] mixed (by kernel_rfl) ?_ | refine ifT ?_ | refine ifF ?_ | (refine ifQ ?_ ?_ <;> (try (intro hn))) | (refine ifB ?_ ?_ <;> (intro hq; try (have hq' := hq; simp only [hqs] at hq'))))
                  exact rt1 rfl rfl finS_p rfl
          · have d5 : decide (x.2.1 = 0) = false := decide_eq_false hi
            rw [decide_eq_false (fun k => hi k.2.1)]
            rcases h3 with h3 | h3
            · have d7 : decide (x.1 = 3) = true := decide_eq_true h3
              as_aux_lemma =>
                repeat' (first | refine rnC ?_ | refine rnSB ?_ | refine rnG ?_ | refine rnU ?_ | ((fail_if_success (refine rnKn ?_)); refine rnP ?_ ?_ <;> (intro hq; try (have hq' := hq; simp only [hqs] at hq'))) | refine rkC ?_ | refine rkSB ?_ | refine rkF ?_ | refine rkU ?_ | ((fail_if_success (refine rkKn ?_)); refine rkP ?_ ?_ <;> (intro hq; try (have hq' := hq; simp only [hqs] at hq'))) | refine stp ?_ | refine aws_draws [] mixed (by kernel_rfl) ?_ | refine ifT ?_ | refine ifF ?_ | (refine ifQ ?_ ?_ <;> (try (intro hn))) | (refine ifB ?_ ?_ <;> (intro hq; try (have hq' := hq; simp only [hqs] at hq'))))
                exact rt1 rfl rfl finS_p rfl
            · have d7 : decide (x.1 = 3) = false := decide_eq_false (by omega)
              have d8 : decide (x.1 = 4) = true := decide_eq_true h3
              as_aux_lemma =>
                repeat' (first | refine rnC ?_ | refine rnSB ?_ | refine rnG ?_ | refine rnU ?_ | ((fail_if_success (refine rnKn ?_)); refine rnP ?_ ?_ <;> (intro hq; try (have hq' := hq; simp only [hqs] at hq'))) | refine rkC ?_ | refine rkSB ?_ | refine rkF ?_ | refine rkU ?_ | ((fail_if_success (refine rkKn ?_)); refine rkP ?_ ?_ <;> (intro hq; try (have hq' := hq; simp only [hqs] at hq'))) | refine stp ?_ | refine aws_draws [] mixed (by kernel_rfl) ?_ | refine ifT ?_ | refine ifF ?_ | (refine ifQ ?_ ?_ <;> (try (intro hn))) | (refine ifB ?_ ?_ <;> (intro hq; try (have hq' := hq; simp only [hqs] at hq'))))
                exact rt1 rfl rfl finS_p rfl
        · have d7 : decide (x.1 = 3) = false := decide_eq_false (fun k => h3 (.inl k))
          have d8 : decide (x.1 = 4) = false := decide_eq_false (fun k => h3 (.inr k))
          rw [decide_eq_false (fun k => h3 k.1)]
          as_aux_lemma =>
            repeat' (first | refine rnC ?_ | refine rnSB ?_ | refine rnG ?_ | refine rnU ?_ | ((fail_if_success (refine rnKn ?_)); refine rnP ?_ ?_ <;> (intro hq; try (have hq' := hq; simp only [hqs] at hq'))) | refine rkC ?_ | refine rkSB ?_ | refine rkF ?_ | refine rkU ?_ | ((fail_if_success (refine rkKn ?_)); refine rkP ?_ ?_ <;> (intro hq; try (have hq' := hq; simp only [hqs] at hq'))) | refine stp ?_ | refine aws_draws [] mixed (by kernel_rfl) ?_ | refine ifT ?_ | refine ifF ?_ | (refine ifQ ?_ ?_ <;> (try (intro hn))) | (refine ifB ?_ ?_ <;> (intro hq; try (have hq' := hq; simp only [hqs] at hq'))))
            exact rt1 rfl rfl finS_p rfl
instance evRight_i {x : Evt} : PC Tryz.prog 76 [xV x] ((Evt.off x).length ≤ 1000000000) (.p (.b (evR x))) := ⟨evRight_w x⟩
end Go.Proofs.YtebjmleheiefdaaGreat.Ca
namespace Go.Proofs.YtebjmleheiefdaaGreat.Ca
open Go Go.RowKit Go.Aw Go.Aw.Cart Go.Aw.Ord Go.Sort
set_option linter.unusedVariables false
set_option linter.unusedSimpArgs false
set_option maxRecDepth 8000
set_option maxHeartbeats 4000000
namespace M4
theorem lopC {C : Ctx} {o : Oper} {σ : St} {e : Eff} {ro : Nat → Bool} (h : LOp C o σ e ro := by
    first | exact M2.lopC | exact lop_mfz1 rfl rfl rfl rfl rfl | (apply gCallF; (focus rfl); first | (apply lop_of1; (focus rfl); (focus exact inferInstance); (focus rfl); (focus first | exact lk_m1 rfl | exact lk_m2 rfl | exact lk_m3 rfl | exact lk_o rfl | exact lk_a2 rfl | exact lk_a3 rfl | exact lk_a4 rfl | exact lk_a1 rfl | exact lk_a5 rfl | exact lk_a6 rfl | exact lk_a7 rfl | exact lk_a8 rfl | exact lk_a rfl); (focus rfl); (focus exact inferInstance); (focus first | exact True.intro | assumption | rfl | omega | ((repeat' (first | assumption | refine And.intro ?_ ?_ | omega | rfl)); done) | fail); (focus rfl); (focus rfl))) | fail) : LOp C o σ e ro := h
section steps
variable {C : Ctx} {ops : Array Oper} {o : Oper} {rest : List Oper} {K : St → Prop} {σ : St} {e : Eff} {ro : Nat → Bool} {W : List (Nat × Nat)} {i : Nat}
theorem rnC {d : Nat} (hk : RunN C ops rest K (e.app (some d) σ)) (hg : Guard ops σ o true := by first | exact gd_n rfl rfl | exact gd_t rfl rfl rfl rfl | exact gd_t rfl rfl rfl (by assumption)) (hd : o.dst = some d := by rfl) (h : LOp C o σ e ro := by exact lopC) : RunN C ops (o :: rest) K σ := rn_any hg hd h hk
theorem rkC {d : Nat} (hk : RunK C ops W (i + 1) rest K (e.app (some d) σ)) (hg : Guard ops σ o true := by first | exact gd_n rfl rfl | exact gd_t rfl rfl rfl rfl | exact gd_t rfl rfl rfl (by assumption)) (hd' : o.dst = some d := by rfl) (hd : dOk C o.dst = true := by rfl) (h : LOp C o σ e ro := by exact lopC)
    (hro : ∀ x, ro x = true → okObj ops W i x = true := by first | exact fun _ => ro_none | exact ro_one rfl | exact ro_k1 rfl | exact ro_one (by kernel_rfl) | exact ro_k1 (by kernel_rfl) | exact ro_kIn (by decide)) (hob : ∀ p ∈ e.obj, (i, p.1) ∈ W := by first | exact ob_none | exact ob_one (by decide) | decide) : RunK C ops W i (o :: rest) K σ := rk_wr hg hd' hd h hro hob hk
end steps
end M4
open M4
theorem has1_w (x y : Evt) (h : (Evt.off x).length ≤ 1000000000) : PCall Tryz.prog 101 [xV y, .p (.bx (xR x) 0)] (.p (.b (decide (x = y)))) := by
  refine pcall_of Tryz.func101 rfl (fun w0 F S0 M0 => ?_)
  have hl : (x.2.2.2.2).length ≤ 1000000000 := h
  as_aux_lemma =>
    repeat' (first | refine rnC ?_ | refine rnSB ?_ | refine rnG ?_ | refine rnU ?_ | ((fail_if_success (refine rnKn ?_)); refine rnP ?_ ?_ <;> (intro hq; try (have hq' := hq; simp only [hqs] at hq'))) | refine rkC ?_ | refine rkSB ?_ | refine rkF ?_ | refine rkU ?_ | ((fail_if_success (refine rkKn ?_)); refine rkP ?_ ?_ <;> (intro hq; try (have hq' := hq; simp only [hqs] at hq'))) | refine stp ?_ | refine aws_draws [] mixed (by kernel_rfl) ?_ | refine ifT ?_ | refine ifF ?_ | (refine ifQ ?_ ?_ <;> (try (intro hn))) | (refine ifB ?_ ?_ <;> (intro hq; try (have hq' := hq; simp only [hqs] at hq'))))
    exact rt1 rfl rfl finS_p rfl
instance has1_i {x : Evt} : FPX Tryz.prog 101 [.bx (xR x) 0] ((Evt.off x).length ≤ 1000000000) (fun y => decide (x = y)) := ⟨fun h y => has1_w x y h⟩
theorem any_is {l : List Evt} {x : Evt} : (l.any fun y => decide (x = y)) = decide (x ∈ l) := by
  rw [Bool.eq_iff_iff, List.any_eq_true, decide_eq_true_eq]
  constructor
  · rintro ⟨y, hy, e⟩; rw [of_decide_eq_true e]; exact hy
  · exact fun h => ⟨x, h, decide_eq_true rfl⟩
theorem hasX_w (l : List Evt) (ex : Bool) (x : Evt) (h : (Evt.off x).length ≤ 1000000000) (hl : l.length ≤ 1000000000) : PCall Tryz.prog 64 [.p (.sl 6 (l.map xR) ex), xV x] (.p (.b (decide (x ∈ l)))) := by
  refine pcall_of Tryz.func64 rfl (fun w0 F S0 M0 => ?_)
  have c := containsFuncX_w 101 [.bx (xR x) 0] inferInstance (fun y => decide (x = y)) l ex hl (fun y => has1_w x y h)
  rw [any_is] at c
  haveI : PC Tryz.prog 100 [.p (.sl 6 (l.map xR) ex), .p (.fnv 101 [.bx (xR x) 0])] True (.p (.b (decide (x ∈ l)))) := ⟨fun _ => c⟩
  as_aux_lemma =>
    repeat' (first | refine rnC ?_ | refine rnSB ?_ | refine rnG ?_ | refine rnU ?_ | ((fail_if_success (refine rnKn ?_)); refine rnP ?_ ?_ <;> (intro hq; try (have hq' := hq; simp only [hqs] at hq'))) | refine rkC ?_ | refine rkSB ?_ | refine rkF ?_ | refine rkU ?_ | ((fail_if_success (refine rkKn ?_)); refine rkP ?_ ?_ <;> (intro hq; try (have hq' := hq; simp only [hqs] at hq'))) | refine stp ?_ | refine aws_draws [] mixed (by kernel_rfl) ?_ | refine ifT ?_ | refine ifF ?_ | (refine ifQ ?_ ?_ <;> (try (intro hn))) | (refine ifB ?_ ?_ <;> (intro hq; try (have hq' := hq; simp only [hqs] at hq'))))
    exact rt1 rfl rfl finS_p rfl
instance hasX_i {l : List Evt} {ex : Bool} {x : Evt} : PC Tryz.prog 64 [.p (.sl 6 (l.map xR) ex), xV x] ((Evt.off x).length ≤ 1000000000 ∧ l.length ≤ 1000000000) (.p (.b (decide (x ∈ l)))) := ⟨fun h => hasX_w l ex x h.1 h.2⟩
theorem mDots_w (l : List Evt) (ex : Bool) (h : l.length ≤ 1000000) (ho : ∀ x ∈ l, (Evt.off x).length ≤ 1000000) : PCall Tryz.prog 74 [.p (.sl 6 (l.map xR) ex)] (.p (.sl 2 ((mDots l).map dR) false)) := by
  refine pcall_of Tryz.func74 rfl (fun w0 F S0 M0 => ?_)
  repeat' (first | refine rnC ?_ | refine rnSB ?_ | refine rnG ?_ | refine rnU ?_ | ((fail_if_success (refine rnKn ?_)); refine rnP ?_ ?_ <;> (intro hq; try (have hq' := hq; simp only [hqs] at hq'))) | refine rkC ?_ | refine rkSB ?_ | refine rkF ?_ | refine rkU ?_ | ((fail_if_success (refine rkKn ?_)); refine rkP ?_ ?_ <;> (intro hq; try (have hq' := hq; simp only [hqs] at hq'))) | refine stp ?_ | refine ifT ?_ | refine ifF ?_ | (refine ifQ ?_ ?_ <;> (try (intro hn))) | (refine ifB ?_ ?_ <;> (intro hq; try (have hq' := hq; simp only [hqs] at hq'))))
  refine aws_says (says_nil (t := 3) (o := 901) (ty := 74) (es := 2) rfl rfl (by decide)) ?_
  refine aws_loopS [3, 5, 8, 9, 10, 11, 12, 13, 14, 15, 16, 17, 18, 19, 20, 21, 22, 23] [5, 901] (fun (x : Nat × Nat × List Dot × Option MO) => [(8, .p (.i x.1)), (3, .o (.osl 901 x.2.1 2 0 x.2.2.1.length))]) (fun x => [(5, (x.1, x.2.2.2)), (901, (x.2.1 + 1, some (.buf 74 2 (x.2.2.1.map dR))))])
    (fun x => x.1 ≤ l.length ∧ x.2.2.1 = ((l.take x.1).filter mkE).map Evt.dot) (fun x => l.length - x.1) (0, 0, [], none) ⟨Nat.zero_le _, rfl⟩ (by exact knA) (by exact knA) ?_
  rintro ⟨i, g, m, c5⟩ β γ ⟨hi, hm⟩
  simp only at hi hm
  have hml : m.length ≤ 1000000 := by
    rw [hm, List.length_map]
    refine Nat.le_trans (List.length_filter_le _ _) ?_
    rw [List.length_take]; omega
  dsimp only
  by_cases hil : i < l.length
  · have hd : decide ((i : Int) < (l.length : Int)) = true := decide_eq_true (by omega)
    have ei : (i : Int).toNat = i := Int.toNat_natCast i
    have hst : ((l.take (i + 1)).filter mkE).map Evt.dot = m ++ (if mkE (l.getD (i : Int).toNat default) = true then [Evt.dot (l.getD (i : Int).toNat default)] else []) := by
      rw [take_get' hil, List.filter_append, List.map_append, ← hm, ei]
      congr 1
      by_cases q : mkE (l.getD i default) = true
      · rw [if_pos q, List.filter_cons_of_pos q]; rfl
      · rw [if_neg q, List.filter_cons_of_neg q]; rfl
    have hof : ((l.getD (i : Int).toNat default).2.2.2.2).length ≤ 1000000000 := by
      have := ho (l.getD (i : Int).toNat default) (by rw [ei, getD_at hil]; exact List.getElem_mem _)
      exact Nat.le_trans this (by decide)
    cases ha : addsE (l.getD (i : Int).toNat default) with
    | false =>
      rw [if_neg (by unfold mkE; rw [ha]; simp), List.append_nil] at hst
      as_aux_lemma =>
        repeat' (first | refine rnC ?_ | refine rnSB ?_ | refine rnG ?_ | refine rnU ?_ | ((fail_if_success (refine rnKn ?_)); refine rnP ?_ ?_ <;> (intro hq; try (have hq' := hq; simp only [hqs] at hq'))) | refine rkC ?_ | refine rkSB ?_ | refine rkF ?_ | refine rkU ?_ | ((fail_if_success (refine rkKn ?_)); refine rkP ?_ ?_ <;> (intro hq; try (have hq' := hq; simp only [hqs] at hq'))) | refine stp ?_ | refine aws_draws [] mixed (by kernel_rfl) ?_ | refine ifT ?_ | refine ifF ?_ | (refine ifQ ?_ ?_ <;> (try (intro hn))) | (refine ifB ?_ ?_ <;> (intro hq; try (have hq' := hq; simp only [hqs] at hq'))))
        exact ⟨(i + 1, g, m, _), _, by dsimp only; omega, ⟨by dsimp only; omega, hst.symm⟩, .refl, by exact frA⟩
    | true =>
      cases hr : evR (l.getD (i : Int).toNat default) with
      | false =>
        rw [if_neg (by unfold mkE; rw [ha, hr]; simp), List.append_nil] at hst
        as_aux_lemma =>
          repeat' (first | refine rnC ?_ | refine rnSB ?_ | refine rnG ?_ | refine rnU ?_ | ((fail_if_success (refine rnKn ?_)); refine rnP ?_ ?_ <;> (intro hq; try (have hq' := hq; simp only [hqs] at hq'))) | refine rkC ?_ | refine rkSB ?_ | refine rkF ?_ | refine rkU ?_ | ((fail_if_success (refine rkKn ?_)); refine rkP ?_ ?_ <;> (intro hq; try (have hq' := hq; simp only [hqs] at hq'))) | refine stp ?_ | refine aws_draws [] mixed (by kernel_rfl) ?_ | refine ifT ?_ | refine ifF ?_ | (refine ifQ ?_ ?_ <;> (try (intro hn))) | (refine ifB ?_ ?_ <;> (intro hq; try (have hq' := hq; simp only [hqs] at hq'))))
          exact ⟨(i + 1, g, m, _), _, by dsimp only; omega, ⟨by dsimp only; omega, hst.symm⟩, .refl, by exact frA⟩
      | true =>
        rw [if_pos (by unfold mkE; rw [ha, hr]; rfl)] at hst
        as_aux_lemma =>
          repeat' (first | refine rnC ?_ | refine rnSB ?_ | refine rnG ?_ | refine rnU ?_ | ((fail_if_success (refine rnKn ?_)); refine rnP ?_ ?_ <;> (intro hq; try (have hq' := hq; simp only [hqs] at hq'))) | refine rkC ?_ | refine rkSB ?_ | refine rkF ?_ | refine rkU ?_ | ((fail_if_success (refine rkKn ?_)); refine rkP ?_ ?_ <;> (intro hq; try (have hq' := hq; simp only [hqs] at hq'))) | refine stp ?_ | refine aws_draws [] mixed (by kernel_rfl) ?_ | refine ifT ?_ | refine ifF ?_ | (refine ifQ ?_ ?_ <;> (try (intro hn))) | (refine ifB ?_ ?_ <;> (intro hq; try (have hq' := hq; simp only [hqs] at hq'))))
          exact ⟨(i + 1, g + 1, m ++ [(_, _)], _), _, by dsimp only; omega, ⟨by dsimp only; omega, hst.symm⟩, .refl, by exact frA⟩
  · have hd : decide ((i : Int) < (l.length : Int)) = false := decide_eq_false (by omega)
    have e : mDots l = G.dotsOf m := by rw [hm, List.take_of_length_le (by omega)]; rfl
    rw [e]
    have hm9 : m.length ≤ 1000000000 := by omega
    refine aws_says (says_frz (t := 3) (o := 901) rfl rfl rfl (by simp)) ?_
    as_aux_lemma =>
      repeat' (first | refine rnC ?_ | refine rnSB ?_ | refine rnG ?_ | refine rnU ?_ | ((fail_if_success (refine rnKn ?_)); refine rnP ?_ ?_ <;> (intro hq; try (have hq' := hq; simp only [hqs] at hq'))) | refine rkC ?_ | refine rkSB ?_ | refine rkF ?_ | refine rkU ?_ | ((fail_if_success (refine rkKn ?_)); refine rkP ?_ ?_ <;> (intro hq; try (have hq' := hq; simp only [hqs] at hq'))) | refine stp ?_ | refine aws_draws [] mixed (by kernel_rfl) ?_ | refine ifT ?_ | refine ifF ?_ | (refine ifQ ?_ ?_ <;> (try (intro hn))) | (refine ifB ?_ ?_ <;> (intro hq; try (have hq' := hq; simp only [hqs] at hq'))))
      exact rt1 rfl rfl finS_p rfl
instance mDots_i {l : List Evt} {ex : Bool} : PC Tryz.prog 74 [.p (.sl 6 (l.map xR) ex)] (l.length ≤ 1000000 ∧ ∀ x ∈ l, (Evt.off x).length ≤ 1000000) (.p (.sl 2 ((mDots l).map dR) false)) := ⟨fun h => mDots_w l ex h.1 h.2⟩
/-- all that went off, as far as it has been looked at -/
theorem off_take {l : List Evt} {i : Nat} (h : i < l.length) : mOff (l.take (i + 1)) = mOff (l.take i) ++ Evt.off (l.getD i default) := by
  unfold mOff; rw [take_get' h, List.flatMap_append]; simp
theorem off_le {l : List Evt} {B : Nat} (h : ∀ x ∈ l, (Evt.off x).length ≤ B) : (mOff l).length ≤ l.length * B := by
  unfold mOff
  induction l with
  | nil => simp
  | cons a l ih =>
    rw [List.flatMap_cons, List.length_append, List.length_cons, Nat.succ_mul]
    have h1 := h a List.mem_cons_self
    have h2 := ih fun x hx => h x (List.mem_cons_of_mem _ hx)
    omega
theorem mOff_w (l : List Evt) (ex : Bool) (h : l.length ≤ 1000) (ho : ∀ x ∈ l, (Evt.off x).length ≤ 100000) : PCall Tryz.prog 70 [.p (.sl 6 (l.map xR) ex)] (.p (.sl 2 ((mOff l).map dR) false)) := by
  refine pcall_of Tryz.func70 rfl (fun w0 F S0 M0 => ?_)
  repeat' (first | refine rnC ?_ | refine rnSB ?_ | refine rnG ?_ | refine rnU ?_ | ((fail_if_success (refine rnKn ?_)); refine rnP ?_ ?_ <;> (intro hq; try (have hq' := hq; simp only [hqs] at hq'))) | refine rkC ?_ | refine rkSB ?_ | refine rkF ?_ | refine rkU ?_ | ((fail_if_success (refine rkKn ?_)); refine rkP ?_ ?_ <;> (intro hq; try (have hq' := hq; simp only [hqs] at hq'))) | refine stp ?_ | refine ifT ?_ | refine ifF ?_ | (refine ifQ ?_ ?_ <;> (try (intro hn))) | (refine ifB ?_ ?_ <;> (intro hq; try (have hq' := hq; simp only [hqs] at hq'))))
  refine aws_says (says_nil (t := 3) (o := 901) (ty := 74) (es := 2) rfl rfl (by decide)) ?_
  refine aws_loopS [3, 5, 8, 9, 10, 11, 12, 13, 14, 15, 16] [5, 901] (fun (x : Nat × Nat × List Dot × Option MO) => [(8, .p (.i x.1)), (3, .o (.osl 901 x.2.1 2 0 x.2.2.1.length))]) (fun x => [(5, (x.1, x.2.2.2)), (901, (x.2.1 + 1, some (.buf 74 2 (x.2.2.1.map dR))))])
    (fun x => x.1 ≤ l.length ∧ x.2.2.1 = mOff (l.take x.1)) (fun x => l.length - x.1) (0, 0, [], none) ⟨Nat.zero_le _, rfl⟩ (by exact knA) (by exact knA) ?_
  rintro ⟨i, g, m, c5⟩ β γ ⟨hi, hm⟩
  simp only at hi hm
  have hml : m.length ≤ 100000000 := by
    have h1 := off_le (l := l.take i) (B := 100000) fun x hx => ho x (List.mem_of_mem_take hx)
    rw [← hm, List.length_take] at h1
    have h2 : min i l.length * 100000 ≤ 1000 * 100000 := Nat.mul_le_mul_right _ (by omega)
    omega
  dsimp only
  by_cases hil : i < l.length
  · have hd : decide ((i : Int) < (l.length : Int)) = true := decide_eq_true (by omega)
    have ei : (i : Int).toNat = i := Int.toNat_natCast i
    have hst := off_take hil
    rw [← hm] at hst
    have hof : ((l.getD (i : Int).toNat default).2.2.2.2).length ≤ 100000 := ho (l.getD (i : Int).toNat default) (by rw [ei, getD_at hil]; exact List.getElem_mem _)
    as_aux_lemma =>
      repeat' (first | refine rnC ?_ | refine rnSB ?_ | refine rnG ?_ | refine rnU ?_ | ((fail_if_success (refine rnKn ?_)); refine rnP ?_ ?_ <;> (intro hq; try (have hq' := hq; simp only [hqs] at hq'))) | refine rkC ?_ | refine rkSB ?_ | refine rkF ?_ | refine rkU ?_ | ((fail_if_success (refine rkKn ?_)); refine rkP ?_ ?_ <;> (intro hq; try (have hq' := hq; simp only [hqs] at hq'))) | refine stp ?_ | refine aws_draws [] mixed (by kernel_rfl) ?_ | refine ifT ?_ | refine ifF ?_ | (refine ifQ ?_ ?_ <;> (try (intro hn))) | (refine ifB ?_ ?_ <;> (intro hq; try (have hq' := hq; simp only [hqs] at hq'))))
      refine ⟨(i + 1, g + 1, m ++ Evt.off (l.getD (i : Int).toNat default), _), _, by dsimp only; omega, ⟨by dsimp only; omega, ?_⟩, .refl, by exact frA⟩
      dsimp only
      rw [hst, ei]
  · have hd : decide ((i : Int) < (l.length : Int)) = false := decide_eq_false (by omega)
    have e : mOff l = m := by rw [hm, List.take_of_length_le (by omega)]
    rw [e]
    as_aux_lemma =>
      repeat' (first | refine rnC ?_ | refine rnSB ?_ | refine rnG ?_ | refine rnU ?_ | ((fail_if_success (refine rnKn ?_)); refine rnP ?_ ?_ <;> (intro hq; try (have hq' := hq; simp only [hqs] at hq'))) | refine rkC ?_ | refine rkSB ?_ | refine rkF ?_ | refine rkU ?_ | ((fail_if_success (refine rkKn ?_)); refine rkP ?_ ?_ <;> (intro hq; try (have hq' := hq; simp only [hqs] at hq'))) | refine stp ?_ | refine aws_draws [] mixed (by kernel_rfl) ?_ | refine ifT ?_ | refine ifF ?_ | (refine ifQ ?_ ?_ <;> (try (intro hn))) | (refine ifB ?_ ?_ <;> (intro hq; try (have hq' := hq; simp only [hqs] at hq'))))
      exact rt1 rfl rfl (.one (finC_map rfl rfl rfl rfl)) rfl
instance mOff_i {l : List Evt} {ex : Bool} : PC Tryz.prog 70 [.p (.sl 6 (l.map xR) ex)] (l.length ≤ 1000 ∧ ∀ x ∈ l, (Evt.off x).length ≤ 100000) (.p (.sl 2 ((mOff l).map dR) false)) := ⟨fun h => mOff_w l ex h.1 h.2⟩
end Go.Proofs.YtebjmleheiefdaaGreat.Ca
namespace Go.Proofs.YtebjmleheiefdaaGreat.Ca
open Go Go.RowKit Go.Aw Go.Aw.Cart Go.Aw.Ord Go.Sort
set_option linter.unusedVariables false
set_option linter.unusedSimpArgs false
set_option maxRecDepth 8000
set_option maxHeartbeats 4000000
open M4
theorem concat2_o (a b : List Evt) (ex ey : Bool) (ha : a.length ≤ 1000000) (hb : b.length ≤ 1000000) (c k : Nat) : OCAt Tryz.prog 63 [.p (.sl 1 [[.sl 6 (a.map xR) ex], [.sl 6 (b.map xR) ey]] true)] [] [(c, k)] (.o (.osl c (k + 2) 6 0 (a ++ b).length)) [(c, (k + 3, some (.buf 77 6 ((a ++ b).map xR))))] := by
  have e : ([(a, ex), (b, ey)] : List (List Evt × Bool)).flatMap (·.1) = a ++ b := by simp
  have := (concatX_c [(a, ex), (b, ey)] true ⟨by rw [e, List.length_append]; omega, by simp⟩).fresh1 c k
  rw [e] at this
  exact this
theorem union_w (a b : List Evt) (ex ey : Bool) (ha : a.length ≤ 1000000) (hb : b.length ≤ 1000000) (ho : ∀ x ∈ a ++ b, (Evt.off x).length ≤ 1000000) : PCall Tryz.prog 32 [.p (.sl 6 (a.map xR) ex), .p (.sl 6 (b.map xR) ey)] (.p (.sl 6 ((mUnion a b).map xR) false)) := by
  refine pcall_of Tryz.func32 rfl (fun w0 F S0 M0 => ?_)
  haveI : ∀ c k : Nat, OC Tryz.prog 63 [.p (.sl 1 [[.sl 6 (a.map xR) ex], [.sl 6 (b.map xR) ey]] true)] [] [(c, k)] True (.o (.osl c (k + 2) 6 0 (a ++ b).length)) [(c, (k + 3, some (.buf 77 6 ((a ++ b).map xR))))] := fun c k => ⟨fun _ => concat2_o a b ex ey ha hb c k⟩
  have hab : (a ++ b).length ≤ 2000000 := by rw [List.length_append]; omega
  rw [show mUnion a b = uTo (a ++ b) (a ++ b).length from rfl]
  generalize a ++ b = l at *
  repeat' (first | refine rnC ?_ | refine rnSB ?_ | refine rnG ?_ | refine rnU ?_ | ((fail_if_success (refine rnKn ?_)); refine rnP ?_ ?_ <;> (intro hq; try (have hq' := hq; simp only [hqs] at hq'))) | refine rkC ?_ | refine rkSB ?_ | refine rkF ?_ | refine rkU ?_ | ((fail_if_success (refine rkKn ?_)); refine rkP ?_ ?_ <;> (intro hq; try (have hq' := hq; simp only [hqs] at hq'))) | refine stp ?_ | refine ifT ?_ | refine ifF ?_ | (refine ifQ ?_ ?_ <;> (try (intro hn))) | (refine ifB ?_ ?_ <;> (intro hq; try (have hq' := hq; simp only [hqs] at hq'))))
  refine aws_says (says_frz (t := 11) (o := 11) rfl rfl rfl (by simp)) ?_
  refine aws_says (says_nil (t := 5) (o := 901) (ty := 77) (es := 6) rfl rfl (by decide)) ?_
  refine aws_loopS [5, 7, 13, 14, 15, 16, 17, 18, 19, 20, 21, 22, 23, 24, 25] [7, 901] (fun (x : Nat × Nat × List Evt × Option MO) => [(13, .p (.i x.1)), (5, .o (.osl 901 x.2.1 6 0 x.2.2.1.length))]) (fun x => [(7, (x.1, x.2.2.2)), (901, (x.2.1 + 1, some (.buf 77 6 (x.2.2.1.map xR))))])
    (fun x => x.1 ≤ l.length ∧ x.2.2.1 = uTo l x.1) (fun x => l.length - x.1) (0, 0, [], none) ⟨Nat.zero_le _, rfl⟩ (by exact knA) (by exact knA) ?_
  rintro ⟨i, g, m, c7⟩ β γ ⟨hi, hm⟩
  simp only at hi hm
  have hml : m.length ≤ 2000000 := by rw [hm]; exact Nat.le_trans (uTo_len i) (by omega)
  have hm9 : m.length ≤ 1000000000 := by omega
  dsimp only
  by_cases hil : i < l.length
  · have hd : decide ((i : Int) < (l.length : Int)) = true := decide_eq_true (by omega)
    have ei : (i : Int).toNat = i := Int.toNat_natCast i
    have hst : uTo l (i + 1) = if l.getD i default ∈ m then m else m ++ [l.getD i default] := by rw [uTo, hm]
    rw [← ei] at hst
    rw [ei] at hst
    have hof : ((l.getD (i : Int).toNat default).2.2.2.2).length ≤ 1000000000 := by
      have := ho (l.getD (i : Int).toNat default) (by rw [ei, getD_at hil]; exact List.getElem_mem _)
      exact Nat.le_trans this (by decide)
    by_cases hq : l.getD (i : Int).toNat default ∈ m
    · have d1 : (!decide (l.getD (i : Int).toNat default ∈ m)) = false := by rw [decide_eq_true hq]; rfl
      rw [ei] at hq
      rw [if_pos hq] at hst
      as_aux_lemma =>
        repeat' (first | refine rnC ?_ | refine rnSB ?_ | refine rnG ?_ | refine rnU ?_ | ((fail_if_success (refine rnKn ?_)); refine rnP ?_ ?_ <;> (intro hq; try (have hq' := hq; simp only [hqs] at hq'))) | refine rkC ?_ | refine rkSB ?_ | refine rkF ?_ | refine rkU ?_ | ((fail_if_success (refine rkKn ?_)); refine rkP ?_ ?_ <;> (intro hq; try (have hq' := hq; simp only [hqs] at hq'))) | refine stp ?_ | refine ifT ?_ | refine ifF ?_ | (refine ifQ ?_ ?_ <;> (try (intro hn))) | (refine ifB ?_ ?_ <;> (intro hq; try (have hq' := hq; simp only [hqs] at hq'))))
        exact ⟨(i + 1, g, m, _), _, by dsimp only; omega, ⟨by dsimp only; omega, hst.symm⟩, .refl, by exact frA⟩
    · have d1 : (!decide (l.getD (i : Int).toNat default ∈ m)) = true := by rw [decide_eq_false hq]; rfl
      rw [ei] at hq
      rw [if_neg hq] at hst
      as_aux_lemma =>
        repeat' (first | refine rnC ?_ | refine rnSB ?_ | refine rnG ?_ | refine rnU ?_ | ((fail_if_success (refine rnKn ?_)); refine rnP ?_ ?_ <;> (intro hq; try (have hq' := hq; simp only [hqs] at hq'))) | refine rkC ?_ | refine rkSB ?_ | refine rkF ?_ | refine rkU ?_ | ((fail_if_success (refine rkKn ?_)); refine rkP ?_ ?_ <;> (intro hq; try (have hq' := hq; simp only [hqs] at hq'))) | refine stp ?_ | refine ifT ?_ | refine ifF ?_ | (refine ifQ ?_ ?_ <;> (try (intro hn))) | (refine ifB ?_ ?_ <;> (intro hq; try (have hq' := hq; simp only [hqs] at hq'))))
        refine ⟨(i + 1, g + 1, m ++ [(_, _, _, (_, _), _)], _), _, by dsimp only; omega, ⟨by dsimp only; omega, ?_⟩, .refl, by exact frA⟩
        dsimp only
        rw [hst, ei]
  · have hd : decide ((i : Int) < (l.length : Int)) = false := decide_eq_false (by omega)
    obtain rfl : i = l.length := by omega
    rw [← hm]
    as_aux_lemma =>
      repeat' (first | refine rnC ?_ | refine rnSB ?_ | refine rnG ?_ | refine rnU ?_ | ((fail_if_success (refine rnKn ?_)); refine rnP ?_ ?_ <;> (intro hq; try (have hq' := hq; simp only [hqs] at hq'))) | refine rkC ?_ | refine rkSB ?_ | refine rkF ?_ | refine rkU ?_ | ((fail_if_success (refine rkKn ?_)); refine rkP ?_ ?_ <;> (intro hq; try (have hq' := hq; simp only [hqs] at hq'))) | refine stp ?_ | refine ifT ?_ | refine ifF ?_ | (refine ifQ ?_ ?_ <;> (try (intro hn))) | (refine ifB ?_ ?_ <;> (intro hq; try (have hq' := hq; simp only [hqs] at hq'))))
      exact rt1 rfl rfl (.one (finC_map rfl rfl rfl rfl)) rfl
instance union_i {a b : List Evt} {ex ey : Bool} : PC Tryz.prog 32 [.p (.sl 6 (a.map xR) ex), .p (.sl 6 (b.map xR) ey)] (a.length ≤ 1000000 ∧ b.length ≤ 1000000 ∧ ∀ x ∈ a ++ b, (Evt.off x).length ≤ 1000000) (.p (.sl 6 ((mUnion a b).map xR) false)) := ⟨fun h => union_w a b ex ey h.1 h.2.1 h.2.2⟩
theorem clash1_w' (x y : Evt) (h : (Evt.off x).length ≤ 1000000000) : PCall Tryz.prog 139 [xV y, .p (.bx (xR x) 0)] (.p (.b (clX x y))) := by
  refine pcall_of Tryz.func139 rfl (fun w0 F S0 M0 => ?_)
  have hl : (x.2.2.2.2).length ≤ 1000000000 := h
  unfold clX
  cases ha : addsE y with
  | false =>
    as_aux_lemma =>
      repeat' (first | refine rnC ?_ | refine rnSB ?_ | refine rnG ?_ | refine rnU ?_ | ((fail_if_success (refine rnKn ?_)); refine rnP ?_ ?_ <;> (intro hq; try (have hq' := hq; simp only [hqs] at hq'))) | refine rkC ?_ | refine rkSB ?_ | refine rkF ?_ | refine rkU ?_ | ((fail_if_success (refine rkKn ?_)); refine rkP ?_ ?_ <;> (intro hq; try (have hq' := hq; simp only [hqs] at hq'))) | refine stp ?_ | refine aws_draws [] mixed (by kernel_rfl) ?_ | refine ifT ?_ | refine ifF ?_ | (refine ifQ ?_ ?_ <;> (try (intro hn))) | (refine ifB ?_ ?_ <;> (intro hq; try (have hq' := hq; simp only [hqs] at hq'))))
      exact rt1 rfl rfl finS_p rfl
  | true =>
    have e4 := vEqD (Evt.dot x) (Evt.dot y)
    by_cases hd : Evt.dot x = Evt.dot y
    · rw [decide_eq_true hd] at e4 ⊢
      as_aux_lemma =>
        repeat' (first | refine rnC ?_ | refine rnSB ?_ | refine rnG ?_ | refine rnU ?_ | ((fail_if_success (refine rnKn ?_)); refine rnP ?_ ?_ <;> (intro hq; try (have hq' := hq; simp only [hqs] at hq'))) | refine rkC ?_ | refine rkSB ?_ | refine rkF ?_ | refine rkU ?_ | ((fail_if_success (refine rkKn ?_)); refine rkP ?_ ?_ <;> (intro hq; try (have hq' := hq; simp only [hqs] at hq'))) | refine stp ?_ | refine aws_draws [] mixed (by kernel_rfl) ?_ | refine ifT ?_ | refine ifF ?_ | (refine ifQ ?_ ?_ <;> (try (intro hn))) | (refine ifB ?_ ?_ <;> (intro hq; try (have hq' := hq; simp only [hqs] at hq'))))
        exact rt1 rfl rfl finS_p rfl
    · rw [decide_eq_false hd] at e4 ⊢
      as_aux_lemma =>
        repeat' (first | refine rnC ?_ | refine rnSB ?_ | refine rnG ?_ | refine rnU ?_ | ((fail_if_success (refine rnKn ?_)); refine rnP ?_ ?_ <;> (intro hq; try (have hq' := hq; simp only [hqs] at hq'))) | refine rkC ?_ | refine rkSB ?_ | refine rkF ?_ | refine rkU ?_ | ((fail_if_success (refine rkKn ?_)); refine rkP ?_ ?_ <;> (intro hq; try (have hq' := hq; simp only [hqs] at hq'))) | refine stp ?_ | refine aws_draws [] mixed (by kernel_rfl) ?_ | refine ifT ?_ | refine ifF ?_ | (refine ifQ ?_ ?_ <;> (try (intro hn))) | (refine ifB ?_ ?_ <;> (intro hq; try (have hq' := hq; simp only [hqs] at hq'))))
        exact rt1 rfl rfl finS_p rfl
theorem mClash_w (l : List Evt) (ex : Bool) (h : l.length ≤ 1000000) (ho : ∀ x ∈ l, (Evt.off x).length ≤ 1000000) : PCall Tryz.prog 112 [.p (.sl 6 (l.map xR) ex)] (.p (.b (mClash l))) := by
  refine pcall_of Tryz.func112 rfl (fun w0 F S0 M0 => ?_)
  unfold mClash
  repeat' (first | refine rnC ?_ | refine rnSB ?_ | refine rnG ?_ | refine rnU ?_ | ((fail_if_success (refine rnKn ?_)); refine rnP ?_ ?_ <;> (intro hq; try (have hq' := hq; simp only [hqs] at hq'))) | refine rkC ?_ | refine rkSB ?_ | refine rkF ?_ | refine rkU ?_ | ((fail_if_success (refine rkKn ?_)); refine rkP ?_ ?_ <;> (intro hq; try (have hq' := hq; simp only [hqs] at hq'))) | refine stp ?_ | refine ifT ?_ | refine ifF ?_ | (refine ifQ ?_ ?_ <;> (try (intro hn))) | (refine ifB ?_ ?_ <;> (intro hq; try (have hq' := hq; simp only [hqs] at hq'))))
  refine aws_loopS [2, 3, 4, 7, 8, 9, 10, 11, 12, 13, 14, 15, 16, 17, 18, 19, 20, 21] [4] (fun (x : Nat × Option MO) => [(7, .p (.i x.1))]) (fun x => [(4, (x.1, x.2))])
    (fun x => x.1 ≤ l.length ∧ ∀ j, j < x.1 → (addsE (l.getD j default) && (l.take j).any (clX (l.getD j default))) = false) (fun x => l.length - x.1) (0, none) ⟨Nat.zero_le _, fun j hj => absurd hj (Nat.not_lt_zero _)⟩ (by exact knA) (by exact knA) ?_
  rintro ⟨i, c4⟩ β γ ⟨hi, hx⟩
  simp only at hi hx
  dsimp only
  by_cases hil : i < l.length
  · have hd : decide ((i : Int) < (l.length : Int)) = true := decide_eq_true (by omega)
    have ei : (i : Int).toNat = i := Int.toNat_natCast i
    have hof : ((l.getD (i : Int).toNat default).2.2.2.2).length ≤ 1000000000 := by
      have := ho (l.getD (i : Int).toNat default) (by rw [ei, getD_at hil]; exact List.getElem_mem _)
      exact Nat.le_trans this (by decide)
    have htl : (l.take (i : Int).toNat).length ≤ 1000000000 := by rw [List.length_take]; omega
    have next : (addsE (l.getD (i : Int).toNat default) && (l.take (i : Int).toNat).any (clX (l.getD (i : Int).toNat default))) = false → ∀ j, j < i + 1 → (addsE (l.getD j default) && (l.take j).any (clX (l.getD j default))) = false := fun q j hj => by
      by_cases e : j = i
      · rw [ei] at q; rw [e]; exact q
      · exact hx j (by omega)
    have cc := containsFuncX_w 139 [.bx (xR (l.getD (i : Int).toNat default)) 0] inferInstance (clX (l.getD (i : Int).toNat default)) (l.take (i : Int).toNat) false htl (fun y => clash1_w' _ y hof)
    haveI : PC Tryz.prog 100 [.p (.sl 6 ((l.take (i : Int).toNat).map xR) false), .p (.fnv 139 [.bx (xR (l.getD (i : Int).toNat default)) 0])] True (.p (.b ((l.take (i : Int).toNat).any (clX (l.getD (i : Int).toNat default))))) := ⟨fun _ => cc⟩
    clear cc
    cases ha : addsE (l.getD (i : Int).toNat default) with
    | false =>
      have hn := next (by rw [ha]; rfl)
      as_aux_lemma =>
        repeat' (first | refine rnC ?_ | refine rnSB ?_ | refine rnG ?_ | refine rnU ?_ | ((fail_if_success (refine rnKn ?_)); refine rnP ?_ ?_ <;> (intro hq; try (have hq' := hq; simp only [hqs] at hq'))) | refine rkC ?_ | refine rkSB ?_ | refine rkF ?_ | refine rkU ?_ | ((fail_if_success (refine rkKn ?_)); refine rkP ?_ ?_ <;> (intro hq; try (have hq' := hq; simp only [hqs] at hq'))) | refine stp ?_ | refine aws_draws [] mixed (by kernel_rfl) ?_ | refine ifT ?_ | refine ifF ?_ | (refine ifQ ?_ ?_ <;> (try (intro hn))) | (refine ifB ?_ ?_ <;> (intro hq; try (have hq' := hq; simp only [hqs] at hq'))))
        exact ⟨(i + 1, _), _, by dsimp only; omega, ⟨by dsimp only; omega, hn⟩, .refl, by exact frA⟩
    | true =>
      cases hb : (l.take (i : Int).toNat).any (clX (l.getD (i : Int).toNat default)) with
      | false =>
        have hn := next (by rw [ha, hb]; rfl)
        as_aux_lemma =>
          repeat' (first | refine rnC ?_ | refine rnSB ?_ | refine rnG ?_ | refine rnU ?_ | ((fail_if_success (refine rnKn ?_)); refine rnP ?_ ?_ <;> (intro hq; try (have hq' := hq; simp only [hqs] at hq'))) | refine rkC ?_ | refine rkSB ?_ | refine rkF ?_ | refine rkU ?_ | ((fail_if_success (refine rkKn ?_)); refine rkP ?_ ?_ <;> (intro hq; try (have hq' := hq; simp only [hqs] at hq'))) | refine stp ?_ | refine aws_draws [] mixed (by kernel_rfl) ?_ | refine ifT ?_ | refine ifF ?_ | (refine ifQ ?_ ?_ <;> (try (intro hn))) | (refine ifB ?_ ?_ <;> (intro hq; try (have hq' := hq; simp only [hqs] at hq'))))
          exact ⟨(i + 1, _), _, by dsimp only; omega, ⟨by dsimp only; omega, hn⟩, .refl, by exact frA⟩
      | true =>
        rw [decide_eq_true ⟨i, hil, by rw [ei] at ha hb; rw [ha, hb]; rfl⟩]
        as_aux_lemma =>
          repeat' (first | refine rnC ?_ | refine rnSB ?_ | refine rnG ?_ | refine rnU ?_ | ((fail_if_success (refine rnKn ?_)); refine rnP ?_ ?_ <;> (intro hq; try (have hq' := hq; simp only [hqs] at hq'))) | refine rkC ?_ | refine rkSB ?_ | refine rkF ?_ | refine rkU ?_ | ((fail_if_success (refine rkKn ?_)); refine rkP ?_ ?_ <;> (intro hq; try (have hq' := hq; simp only [hqs] at hq'))) | refine stp ?_ | refine aws_draws [] mixed (by kernel_rfl) ?_ | refine ifT ?_ | refine ifF ?_ | (refine ifQ ?_ ?_ <;> (try (intro hn))) | (refine ifB ?_ ?_ <;> (intro hq; try (have hq' := hq; simp only [hqs] at hq'))))
          exact rt1 rfl rfl finS_p rfl
  · have hd : decide ((i : Int) < (l.length : Int)) = false := decide_eq_false (by omega)
    rw [decide_eq_false (fun ⟨j, hj, k⟩ => by rw [hx j (by omega)] at k; cases k)]
    as_aux_lemma =>
      repeat' (first | refine rnC ?_ | refine rnSB ?_ | refine rnG ?_ | refine rnU ?_ | ((fail_if_success (refine rnKn ?_)); refine rnP ?_ ?_ <;> (intro hq; try (have hq' := hq; simp only [hqs] at hq'))) | refine rkC ?_ | refine rkSB ?_ | refine rkF ?_ | refine rkU ?_ | ((fail_if_success (refine rkKn ?_)); refine rkP ?_ ?_ <;> (intro hq; try (have hq' := hq; simp only [hqs] at hq'))) | refine stp ?_ | refine aws_draws [] mixed (by kernel_rfl) ?_ | refine ifT ?_ | refine ifF ?_ | (refine ifQ ?_ ?_ <;> (try (intro hn))) | (refine ifB ?_ ?_ <;> (intro hq; try (have hq' := hq; simp only [hqs] at hq'))))
      exact rt1 rfl rfl finS_p rfl
instance mClash_i {l : List Evt} {ex : Bool} : PC Tryz.prog 112 [.p (.sl 6 (l.map xR) ex)] (l.length ≤ 1000000 ∧ ∀ x ∈ l, (Evt.off x).length ≤ 1000000) (.p (.b (mClash l))) := ⟨fun h => mClash_w l ex h.1 h.2⟩
end Go.Proofs.YtebjmleheiefdaaGreat.Ca
