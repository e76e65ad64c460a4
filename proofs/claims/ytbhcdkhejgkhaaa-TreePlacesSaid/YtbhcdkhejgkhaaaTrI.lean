/- trees, the laws: places -/
import Derived.Test.YtbhcdkhejgkhaaaTrG
import Derived.Test.YtbhcdkhejgkhaaaTr7
namespace Go.Proofs.Ytbhcdkhejgkhaaa.Tr
open Go Go.RowKit Go.Aw Go.Aw.Sha Go.Aw.Tree Go.Proofs.Ytbhcdkhejgkhaaa.Sh
set_option linter.unusedVariables false
set_option linter.unusedSimpArgs false
set_option maxRecDepth 8000
set_option maxHeartbeats 4000000
attribute [local irreducible] sum

theorem places_c (p : Int) : PCall Try.prog 10 [.p (.i p)] (.p (.b true)) := by
  refine pcall_of Try.func10 rfl (fun w0 F S0 M0 => ?_)
  have hkl : (kidsF p).length ≤ 9223372036854775806 := by unfold kidsF; split <;> simp
  have h1 : decide (kidsF p = kidsF p) = true := decide_eq_true rfl
  have h2 : decide (upF p = upF p) = true := decide_eq_true rfl
  have h4 : decide (levelF p = levelF p) = true := decide_eq_true rfl
  by_cases h : 5 ≤ p ∧ p ≤ 20
  · have hl : decide (levelF p = 2) = true := decide_eq_true (by unfold levelF; rw [if_neg (by omega), if_neg (by omega), if_pos (by omega)])
    have h3 : decide (leafOf p = p - 5) = true := decide_eq_true (by unfold leafOf; rw [if_pos (by omega)])
    repeat' (first
        | refine rnB ?_
        | refine rnSB ?_
        | refine rnG ?_
        | refine rnU ?_
        | ((fail_if_success (refine rnKn ?_)); refine rnP ?_ ?_ <;> (intro hq; try (have hq' := hq; simp only [hqs] at hq')))
        | refine rkB ?_
        | refine rkSB ?_
        | refine rkF ?_
        | refine rkU ?_
        | ((fail_if_success (refine rkKn ?_)); refine rkP ?_ ?_ <;> (intro hq; try (have hq' := hq; simp only [hqs] at hq')))
        | refine stp ?_
        | refine ifT ?_
        | refine ifF ?_
        | (refine ifQ ?_ ?_ <;> (try (intro hn)))
        | (refine ifB ?_ ?_ <;> (intro hq; try (have hq' := hq; simp only [hqs] at hq'))))
    exact rt1 rfl rfl finS_p (rb h4.symm)
  · have hl : decide (levelF p = 2) = false := decide_eq_false (by unfold levelF; repeat' split
                                                                   all_goals omega)
    have h3 : decide (leafOf p = -1) = true := decide_eq_true (by unfold leafOf; rw [if_neg (by omega)])
    repeat' (first
        | refine rnB ?_
        | refine rnSB ?_
        | refine rnG ?_
        | refine rnU ?_
        | ((fail_if_success (refine rnKn ?_)); refine rnP ?_ ?_ <;> (intro hq; try (have hq' := hq; simp only [hqs] at hq')))
        | refine rkB ?_
        | refine rkSB ?_
        | refine rkF ?_
        | refine rkU ?_
        | ((fail_if_success (refine rkKn ?_)); refine rkP ?_ ?_ <;> (intro hq; try (have hq' := hq; simp only [hqs] at hq')))
        | refine stp ?_
        | refine ifT ?_
        | refine ifF ?_
        | (refine ifQ ?_ ?_ <;> (try (intro hn)))
        | (refine ifB ?_ ?_ <;> (intro hq; try (have hq' := hq; simp only [hqs] at hq'))))
    exact rt1 rfl rfl finS_p (rb h4.symm)
end Go.Proofs.Ytbhcdkhejgkhaaa.Tr
