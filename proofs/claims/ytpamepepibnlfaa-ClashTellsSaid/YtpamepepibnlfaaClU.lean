/- clashes: Made, Exact -/
import Derived.Test.YtpamepepibnlfaaClZ
namespace Go.Proofs.Ytpamepepibnlfaa.Cl
open Go Go.RowKit Go.Aw Go.Aw.Sha Go.Aw.Tree Go.Aw.Clash Go.Proofs.Ytpamepepibnlfaa.Sh Go.Proofs.Ytpamepepibnlfaa.Tr
set_option linter.unusedVariables false
set_option linter.unusedSimpArgs false
set_option maxRecDepth 8000
attribute [local irreducible] sum
set_option maxHeartbeats 4000000
theorem Made_w (ls : List (List Nat)) (p : Int) (h : few ls) : PCall Try.prog 20 [txs ls, .p (.i p)] (bytesN (madeF ls (ofF ls) p) false) := by
  refine pcall_of Try.func20 rfl (fun w0 F S0 M0 => ?_)
  have hl16 := h.1
  have hof := ofF_len ls
  repeat' (first
      | refine rnB ?_
      | refine rnSB ?_
      | refine rnG ?_
      | refine rnU ?_
      | ((fail_if_success (refine rnKn ?_)); refine rnP ?_ ?_ <;> (intro hq; try (have hq' := hq; simp only [hqs] at hq')))
      | refine rkB ?_
      | refine rkSB ?_
      | refine rkF ?_
      | refine rkU ?_
      | ((fail_if_success (refine rkKn ?_)); refine rkP ?_ ?_ <;> (intro hq; try (have hq' := hq; simp only [hqs] at hq')))
      | refine stp ?_
      | refine aws_draws [] mixed (by kernel_rfl) ?_
      | refine ifT ?_
      | refine ifF ?_
      | (refine ifQ ?_ ?_ <;> (try (intro hn)))
      | (refine ifB ?_ ?_ <;> (intro hq; try (have hq' := hq; simp only [hqs] at hq'))))
  exact rt1 rfl rfl finS_p rfl
instance {ls : List (List Nat)} {p : Int} : PC Try.prog 20 [txs ls, .p (.i p)] (few ls) (bytesN (madeF ls (ofF ls) p) false) := ⟨Made_w ls p⟩
end Go.Proofs.Ytpamepepibnlfaa.Cl
