/- clashes: what a place's digest is made of -/
import Derived.Test.YtpamepepibnlfaaClY
import Derived.Test.YtpamepepibnlfaaTrA
namespace Go.Proofs.Ytpamepepibnlfaa.Cl
open Go Go.RowKit Go.Aw Go.Aw.Sha Go.Aw.Tree Go.Aw.Clash Go.Proofs.Ytpamepepibnlfaa.Sh Go.Proofs.Ytpamepepibnlfaa.Tr
set_option linter.unusedVariables false
set_option linter.unusedSimpArgs false
set_option maxRecDepth 8000
attribute [local irreducible] sum
set_option maxHeartbeats 4000000
theorem made_w (ls : List (List Nat)) (T : List Nat) (p : Int) (h : few ls ∧ T.length = 672) : PCall Try.prog 51 [txs ls, tv T, .p (.i p)] (bytesN (madeF ls T p) false) := by
  refine pcall_of Try.func51 rfl (fun w0 F S0 M0 => ?_)
  obtain ⟨hl, hT⟩ := h
  have hl16 := hl.1
  have hfl := few_get hl (leafOf p).toNat
  have hlf : leafOf p < 16 := by unfold leafOf; split <;> omega
  unfold madeF
  by_cases h0 : 0 ≤ leafOf p
  · have hd : decide (0 ≤ leafOf p) = true := decide_eq_true h0
    rw [if_pos h0]
    repeat' (first
        | refine rnB ?_
        | refine rnSB ?_
        | refine rnG ?_
        | refine rnU ?_
        | ((fail_if_success (refine rnKn ?_)); refine rnP ?_ ?_ <;> (intro hq; try (have hq' := hq; simp only [hqs] at hq')))
        | refine rkB ?_
        | refine rkSB ?_
        | refine rkF ?_
        | refine rkU ?_
        | ((fail_if_success (refine rkKn ?_)); refine rkP ?_ ?_ <;> (intro hq; try (have hq' := hq; simp only [hqs] at hq')))
        | refine stp ?_
        | refine ifT ?_
        | refine ifF ?_
        | (refine ifQ ?_ ?_ <;> (try (intro hn)))
        | (refine ifB ?_ ?_ <;> (intro hq; try (have hq' := hq; simp only [hqs] at hq'))))
    exact rt1 rfl rfl finS_p rfl
  · have hd : decide (0 ≤ leafOf p) = false := decide_eq_false h0
    rw [if_neg h0]
    repeat' (first
        | refine rnB ?_
        | refine rnSB ?_
        | refine rnG ?_
        | refine rnU ?_
        | ((fail_if_success (refine rnKn ?_)); refine rnP ?_ ?_ <;> (intro hq; try (have hq' := hq; simp only [hqs] at hq')))
        | refine rkB ?_
        | refine rkSB ?_
        | refine rkF ?_
        | refine rkU ?_
        | ((fail_if_success (refine rkKn ?_)); refine rkP ?_ ?_ <;> (intro hq; try (have hq' := hq; simp only [hqs] at hq')))
        | refine stp ?_
        | refine ifT ?_
        | refine ifF ?_
        | (refine ifQ ?_ ?_ <;> (try (intro hn)))
        | (refine ifB ?_ ?_ <;> (intro hq; try (have hq' := hq; simp only [hqs] at hq'))))
    exact rt1 rfl rfl finS_p rfl
instance {ls : List (List Nat)} {T : List Nat} {p : Int} : PC Try.prog 51 [txs ls, tv T, .p (.i p)] (few ls ∧ T.length = 672) (bytesN (madeF ls T p) false) := ⟨made_w ls T p⟩
end Go.Proofs.Ytpamepepibnlfaa.Cl
