/- trees: equal lists -/
import Derived.Test.YtbhcdkhejgkhaaaTr4
namespace Go.Proofs.Ytbhcdkhejgkhaaa.Tr
open Go Go.RowKit Go.Aw Go.Aw.Sha Go.Aw.Tree Go.Proofs.Ytbhcdkhejgkhaaa.Sh
set_option linter.unusedVariables false
set_option linter.unusedSimpArgs false
set_option maxRecDepth 8000
theorem same_c (l m : List Int) (ex ey : Bool) (h : l.length ≤ 9223372036854775806 ∧ m.length ≤ 9223372036854775806) : PCall Try.prog 42 [ints l ex, ints m ey] (.p (.b (decide (l = m)))) := by
  refine pcall_of Try.func42 rfl (fun w0 F S0 M0 => ?_)
  repeat' (first
      | refine rnA ?_
      | refine rnS ?_
      | refine rnG ?_
      | refine rnU ?_
      | ((fail_if_success (refine rnKn ?_)); refine rnP ?_ ?_ <;> (intro hq; try (have hq' := hq; simp only [hqs] at hq')))
      | refine rkA ?_
      | refine rkS ?_
      | refine rkF ?_
      | refine rkU ?_
      | ((fail_if_success (refine rkKn ?_)); refine rkP ?_ ?_ <;> (intro hq; try (have hq' := hq; simp only [hqs] at hq')))
      | refine stp ?_
      | refine aws_draws [] mixed (by kernel_rfl) ?_
      | refine ifT ?_
      | refine ifF ?_
      | (refine ifQ ?_ ?_ <;> (try (intro hn)))
      | (refine ifB ?_ ?_ <;> (intro hq; try (have hq' := hq; simp only [hqs] at hq'))))
  · refine rt1 rfl rfl finS_p (rb ?_)
    have : l ≠ m := fun e => by subst e; simp at hq'
    simp [this]
  · have hl : l.length = m.length := by omega
    refine aws_loopF [4, 5, 11, 12, 13, 14, 15, 16, 17, 18, 19, 20, 21, 22, 23, 24, 25] [] (fun i : Nat => [(5, .p (.i i))]) (fun _ => []) (fun i => i ≤ l.length ∧ ∀ j, j < i → l.getD j default = m.getD j default) (fun i => l.length - i) 0 ⟨Nat.zero_le _, fun j hj => absurd hj (Nat.not_lt_zero _)⟩ (by exact knA) (by exact knA) ?_
    rintro i β γ ⟨hi, hpre⟩
    repeat' (first
        | refine rnA ?_
        | refine rnS ?_
        | refine rnG ?_
        | refine rnU ?_
        | ((fail_if_success (refine rnKn ?_)); refine rnP ?_ ?_ <;> (intro hq; try (have hq' := hq; simp only [hqs] at hq')))
        | refine rkA ?_
        | refine rkS ?_
        | refine rkF ?_
        | refine rkU ?_
        | ((fail_if_success (refine rkKn ?_)); refine rkP ?_ ?_ <;> (intro hq; try (have hq' := hq; simp only [hqs] at hq')))
        | refine stp ?_
        | refine aws_draws [] mixed (by kernel_rfl) ?_
        | refine ifT ?_
        | refine ifF ?_
        | (refine ifQ ?_ ?_ <;> (try (intro hn)))
        | (refine ifB ?_ ?_ <;> (intro hq; try (have hq' := hq; simp only [hqs] at hq'))))
    · refine rt1 rfl rfl finS_p (rb ?_)
      have : l ≠ m := fun e => by subst e; exact hq' rfl
      simp [this]
    · refine ⟨i + 1, by omega, ⟨by omega, fun j hj => ?_⟩, ?_⟩
      · rcases Nat.lt_or_ge j i with h1 | h1
        · exact hpre j h1
        · obtain rfl : j = i := by omega
          simpa using hq'
      · exact frA
    · refine rt1 rfl rfl finS_p (rb ?_)
      have : l = m := by
        apply List.ext_getElem hl
        intro j h1 h2
        have := hpre j (by omega)
        simpa [List.getD_eq_getElem?_getD, h1, h2] using this
      simp [this]
instance {l m : List Int} {ex ey : Bool} : PC Try.prog 42 [ints l ex, ints m ey] (l.length ≤ 9223372036854775806 ∧ m.length ≤ 9223372036854775806) (.p (.b (decide (l = m)))) := ⟨same_c l m ex ey⟩
end Go.Proofs.Ytbhcdkhejgkhaaa.Tr
