/- backoffs, the laws: BackoffTells -/
import Derived.Test.YtnmajoiafockgaaBo4
namespace Go.Proofs.Ytnmajoiafockgaa.Bo
open Go Go.RowKit Go.Aw Go.Aw.Bo
set_option linter.unusedVariables false
set_option linter.unusedSimpArgs false
set_option maxRecDepth 8000
set_option maxHeartbeats 4000000
theorem vEq_self (a b c d : Int) : vEqB [.int .i64 a, .int .i64 b, .int .i64 c, .int .i64 d] [.int .i64 a, .int .i64 b, .int .i64 c, .int .i64 d] = true := by simp [vEqB, vEq]
theorem tells_w (b c m t : Int) : PCall Try.prog 3 [stV b c m t] (.p (.b true)) := by
  refine pcall_of Try.func3 rfl (fun w0 F S0 M0 => ?_)
  have e1 : (!vEqB [.int .i64 b, .int .i64 c, .int .i64 m, .int .i64 0] [.int .i64 b, .int .i64 c, .int .i64 m, .int .i64 0]) = false := by rw [vEq_self]; rfl
  have e2 : vEqB [.int .i64 b, .int .i64 c, .int .i64 m, .int .i64 t] [.int .i64 b, .int .i64 c, .int .i64 m, .int .i64 t] = true := vEq_self b c m t
  have e3 : vEqB [.int .i64 b, .int .i64 c, .int .i64 m, .int .i64 0] [.int .i64 b, .int .i64 c, .int .i64 m, .int .i64 0] = true := vEq_self b c m 0
  cases hR : rightB b c m t with
  | true =>
    have hr := right_of hR
    have h0 : rightB b c m 0 = true := right_mk (by omega)
    haveI : PC Try.prog 6 [.p (.i b), .p (.i c), .p (.i m), .p (.i t)] True (.p (.b true)) := ⟨fun _ => by rw [← hR]; exact rright_w b c m t⟩
    haveI : PC Try.prog 8 [stV b c m t] True (.p (.b true)) := ⟨fun _ => by rw [← hR]; exact right_w b c m t⟩
    haveI : PC Try.prog 6 [.p (.i b), .p (.i c), .p (.i m), .p (.i 0)] True (.p (.b true)) := ⟨fun _ => by rw [← h0]; exact rright_w b c m 0⟩
    haveI : PC Try.prog 7 [.p (.i b), .p (.i c), .p (.i m)] True (.tup [.agg (stL b c m 0), .one (.p (.i 0))]) := ⟨fun _ => new_w b c m h0⟩
    obtain ⟨g, hg⟩ : ∃ g, g = gapF b c t.toNat := ⟨_, rfl⟩
    haveI : PC Try.prog 10 [stV b c m t] True (.p (.i g)) := ⟨fun _ => by rw [hg]; exact gap_w b c m t hR⟩
    haveI : PC Try.prog 14 [.p (.i b), .p (.i c), .p (.i t)] True (.p (.i g)) := ⟨fun _ => by rw [hg]; exact rgap_w b c m t hR⟩
    have hgg : decide (g = g) = true := decide_eq_true rfl
    have hmt : (decide (m ≤ t) == decide (m ≤ t)) = true := by simp
    have hn := next_w b c m t hR
    unfold nxF at hn
    by_cases ht : t < 1073741824
    · have hd : decide (t < 1073741824) = true := decide_eq_true ht
      rw [if_pos ht] at hn
      haveI : PC Try.prog 11 [stV b c m t] True (stV b c m (t + 1)) := ⟨fun _ => hn⟩
      have e4 : vEqB [.int .i64 b, .int .i64 c, .int .i64 m, .int .i64 (t + 1)] [.int .i64 b, .int .i64 c, .int .i64 m, .int .i64 (t + 1)] = true := vEq_self b c m (t + 1)
      repeat' (first
          | refine rnB ?_
          | refine rnSB ?_
          | refine rnG ?_
          | refine rnU ?_
          | ((fail_if_success (refine rnKn ?_)); refine rnP ?_ ?_ <;> (intro hq; try (have hq' := hq; simp only [hqs] at hq')))
          | refine rkB ?_
          | refine rkSB ?_
          | refine rkF ?_
          | refine rkU ?_
          | ((fail_if_success (refine rkKn ?_)); refine rkP ?_ ?_ <;> (intro hq; try (have hq' := hq; simp only [hqs] at hq')))
          | refine stp ?_
          | refine aws_draws [] mixed (by kernel_rfl) ?_
          | refine ifT ?_
          | refine ifF ?_
          | (refine ifQ ?_ ?_ <;> (try (intro hn)))
          | (refine ifB ?_ ?_ <;> (intro hq; try (have hq' := hq; simp only [hqs] at hq'))))
      exact rt1 rfl rfl finS_p (rb hmt.symm)
    · have hd : decide (t < 1073741824) = false := decide_eq_false ht
      rw [if_neg ht] at hn
      haveI : PC Try.prog 11 [stV b c m t] True (stV b c m t) := ⟨fun _ => hn⟩
      repeat' (first
          | refine rnB ?_
          | refine rnSB ?_
          | refine rnG ?_
          | refine rnU ?_
          | ((fail_if_success (refine rnKn ?_)); refine rnP ?_ ?_ <;> (intro hq; try (have hq' := hq; simp only [hqs] at hq')))
          | refine rkB ?_
          | refine rkSB ?_
          | refine rkF ?_
          | refine rkU ?_
          | ((fail_if_success (refine rkKn ?_)); refine rkP ?_ ?_ <;> (intro hq; try (have hq' := hq; simp only [hqs] at hq')))
          | refine stp ?_
          | refine aws_draws [] mixed (by kernel_rfl) ?_
          | refine ifT ?_
          | refine ifF ?_
          | (refine ifQ ?_ ?_ <;> (try (intro hn)))
          | (refine ifB ?_ ?_ <;> (intro hq; try (have hq' := hq; simp only [hqs] at hq'))))
      exact rt1 rfl rfl finS_p (rb hmt.symm)
  | false =>
    haveI : PC Try.prog 6 [.p (.i b), .p (.i c), .p (.i m), .p (.i t)] True (.p (.b false)) := ⟨fun _ => by rw [← hR]; exact rright_w b c m t⟩
    haveI : PC Try.prog 8 [stV b c m t] True (.p (.b false)) := ⟨fun _ => by rw [← hR]; exact right_w b c m t⟩
    haveI : PC Try.prog 10 [stV b c m t] True (.p (.i 0)) := ⟨fun _ => gap_not b c m t hR⟩
    haveI : PC Try.prog 11 [stV b c m t] True (stV b c m t) := ⟨fun _ => next_not b c m t hR⟩
    haveI : PC Try.prog 12 [stV b c m t] True (stV b c m t) := ⟨fun _ => reset_not b c m t hR⟩
    haveI : PC Try.prog 13 [stV b c m t] True (.p (.b true)) := ⟨fun _ => spent_not b c m t hR⟩
    cases h0 : rightB b c m 0 with
    | true =>
      haveI : PC Try.prog 6 [.p (.i b), .p (.i c), .p (.i m), .p (.i 0)] True (.p (.b true)) := ⟨fun _ => by rw [← h0]; exact rright_w b c m 0⟩
      haveI : PC Try.prog 7 [.p (.i b), .p (.i c), .p (.i m)] True (.tup [.agg (stL b c m 0), .one (.p (.i 0))]) := ⟨fun _ => new_w b c m h0⟩
      repeat' (first
          | refine rnB ?_
          | refine rnSB ?_
          | refine rnG ?_
          | refine rnU ?_
          | ((fail_if_success (refine rnKn ?_)); refine rnP ?_ ?_ <;> (intro hq; try (have hq' := hq; simp only [hqs] at hq')))
          | refine rkB ?_
          | refine rkSB ?_
          | refine rkF ?_
          | refine rkU ?_
          | ((fail_if_success (refine rkKn ?_)); refine rkP ?_ ?_ <;> (intro hq; try (have hq' := hq; simp only [hqs] at hq')))
          | refine stp ?_
          | refine aws_draws [] mixed (by kernel_rfl) ?_
          | refine ifT ?_
          | refine ifF ?_
          | (refine ifQ ?_ ?_ <;> (try (intro hn)))
          | (refine ifB ?_ ?_ <;> (intro hq; try (have hq' := hq; simp only [hqs] at hq'))))
      exact rt1 rfl rfl finS_p rfl
    | false =>
      haveI : PC Try.prog 6 [.p (.i b), .p (.i c), .p (.i m), .p (.i 0)] True (.p (.b false)) := ⟨fun _ => by rw [← h0]; exact rright_w b c m 0⟩
      haveI : PC Try.prog 7 [.p (.i b), .p (.i c), .p (.i m)] True (.tup [.agg (stL 0 0 0 0), .one (.p (.i 1))]) := ⟨fun _ => new_not b c m h0⟩
      repeat' (first
          | refine rnB ?_
          | refine rnSB ?_
          | refine rnG ?_
          | refine rnU ?_
          | ((fail_if_success (refine rnKn ?_)); refine rnP ?_ ?_ <;> (intro hq; try (have hq' := hq; simp only [hqs] at hq')))
          | refine rkB ?_
          | refine rkSB ?_
          | refine rkF ?_
          | refine rkU ?_
          | ((fail_if_success (refine rkKn ?_)); refine rkP ?_ ?_ <;> (intro hq; try (have hq' := hq; simp only [hqs] at hq')))
          | refine stp ?_
          | refine aws_draws [] mixed (by kernel_rfl) ?_
          | refine ifT ?_
          | refine ifF ?_
          | (refine ifQ ?_ ?_ <;> (try (intro hn)))
          | (refine ifB ?_ ?_ <;> (intro hq; try (have hq' := hq; simp only [hqs] at hq'))))
      exact rt1 rfl rfl finS_p rfl
end Go.Proofs.Ytnmajoiafockgaa.Bo
