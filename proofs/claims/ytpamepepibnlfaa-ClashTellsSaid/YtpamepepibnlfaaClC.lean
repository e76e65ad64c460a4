/- clashes: what is extracted -/
import Derived.Test.YtpamepepibnlfaaClB
namespace Go.Proofs.Ytpamepepibnlfaa.Cl
open Go Go.RowKit Go.Aw Go.Aw.Sha Go.Aw.Tree Go.Aw.Clash Go.Proofs.Ytpamepepibnlfaa.Sh Go.Proofs.Ytpamepepibnlfaa.Tr
set_option linter.unusedVariables false
set_option linter.unusedSimpArgs false
set_option maxRecDepth 8000
attribute [local irreducible] sum
set_option maxHeartbeats 4000000
abbrev exV (x : List Nat × List Nat × Bool) : AV := .tup [.one (.p (bytesP x.1 false)), .one (.p (bytesP x.2.1 false)), .one (.p (.b x.2.2))]
theorem extract_w (ls ms : List (List Nat)) (h : few ls ∧ few ms ∧ okT ls ∧ okT ms) : PCall Try.prog 18 [txs ls, txs ms] (exV (exF ls ms)) := by
  refine pcall_of Try.func18 rfl (fun w0 F S0 M0 => ?_)
  have hl16 := h.1.1
  have hm16 := h.2.1.1
  have hl := h.1
  have hm := h.2.1
  unfold exF
  obtain ⟨n, hn⟩ : ∃ n, n = atF ls ms (ofF ls) (ofF ms) := ⟨_, rfl⟩
  haveI : PC Try.prog 21 [txs ls, txs ms] True (.p (.i n)) := ⟨fun _ => by rw [hn]; exact at_w ls ms h⟩
  rw [← hn]
  by_cases h0 : n < 0
  · have hd : decide (n < 0) = true := decide_eq_true h0
    rw [if_pos h0]
    repeat' (first
        | refine rnB ?_
        | refine rnSB ?_
        | refine rnG ?_
        | refine rnU ?_
        | ((fail_if_success (refine rnKn ?_)); refine rnP ?_ ?_ <;> (intro hq; try (have hq' := hq; simp only [hqs] at hq')))
        | refine rkB ?_
        | refine rkSB ?_
        | refine rkF ?_
        | refine rkU ?_
        | ((fail_if_success (refine rkKn ?_)); refine rkP ?_ ?_ <;> (intro hq; try (have hq' := hq; simp only [hqs] at hq')))
        | refine stp ?_
        | refine aws_draws [] mixed (by kernel_rfl) ?_
        | refine ifT ?_
        | refine ifF ?_
        | (refine ifQ ?_ ?_ <;> (try (intro hn)))
        | (refine ifB ?_ ?_ <;> (intro hq; try (have hq' := hq; simp only [hqs] at hq'))))
    exact rt3 rfl rfl (.one .nil) rfl (.one .nil) rfl finS_p rfl
  · have hd : decide (n < 0) = false := decide_eq_false h0
    rw [if_neg h0]
    repeat' (first
        | refine rnB ?_
        | refine rnSB ?_
        | refine rnG ?_
        | refine rnU ?_
        | ((fail_if_success (refine rnKn ?_)); refine rnP ?_ ?_ <;> (intro hq; try (have hq' := hq; simp only [hqs] at hq')))
        | refine rkB ?_
        | refine rkSB ?_
        | refine rkF ?_
        | refine rkU ?_
        | ((fail_if_success (refine rkKn ?_)); refine rkP ?_ ?_ <;> (intro hq; try (have hq' := hq; simp only [hqs] at hq')))
        | refine stp ?_
        | refine aws_draws [] mixed (by kernel_rfl) ?_
        | refine ifT ?_
        | refine ifF ?_
        | (refine ifQ ?_ ?_ <;> (try (intro hn)))
        | (refine ifB ?_ ?_ <;> (intro hq; try (have hq' := hq; simp only [hqs] at hq'))))
    exact rt3 rfl rfl finS_p rfl finS_p rfl finS_p rfl
instance {ls ms : List (List Nat)} : PC Try.prog 18 [txs ls, txs ms] (few ls ∧ few ms ∧ okT ls ∧ okT ms) (exV (exF ls ms)) := ⟨extract_w ls ms⟩
end Go.Proofs.Ytpamepepibnlfaa.Cl
