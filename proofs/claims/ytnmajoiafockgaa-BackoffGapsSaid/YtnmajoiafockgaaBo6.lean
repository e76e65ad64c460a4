/- backoffs, the laws: BackoffGaps -/
import Derived.Test.YtnmajoiafockgaaBo4
namespace Go.Proofs.Ytnmajoiafockgaa.Bo
open Go Go.RowKit Go.Aw Go.Aw.Bo
set_option linter.unusedVariables false
set_option linter.unusedSimpArgs false
set_option maxRecDepth 8000
set_option maxHeartbeats 4000000
theorem gapsLaw_w (b c m t n : Int) : PCall Try.prog 4 [stV b c m t, .p (.i n)] (.p (.b true)) := by
  refine pcall_of Try.func4 rfl (fun w0 F S0 M0 => ?_)
  by_cases hb : 1 ≤ n ∧ n ≤ 1000
  · have hn1 : decide (n < 1) = false := decide_eq_false (by omega)
    have hn2 : decide (1000 < n) = false := decide_eq_false (by omega)
    cases hR : rightB b c m t with
    | true =>
      have hr := right_of hR
      haveI : PC Try.prog 6 [.p (.i b), .p (.i c), .p (.i m), .p (.i t)] True (.p (.b true)) := ⟨fun _ => by rw [← hR]; exact rright_w b c m t⟩
      obtain ⟨k, rfl⟩ : ∃ k : Nat, n = k := ⟨n.toNat, by omega⟩
      obtain ⟨l, hl⟩ : ∃ l, l = gapsL b c t k := ⟨_, rfl⟩
      have hlk : l.length = k := by rw [hl]; exact gapsL_len
      have hin : ∀ i, 0 ≤ l.getD i default ∧ l.getD i default ≤ 1048576 := by rw [hl]; exact gapsL_in (by omega) (by omega) (by omega)
      have g0 := gaps_w b c m t k hR (by omega) (by omega)
      have g1 := rgaps_w b c m t k hR (by omega)
      rw [← hl] at g0 g1
      have w1 := whole_l b c m t k l (by omega) hin g0
      haveI : PC Try.prog 15 [stV b c m t, .p (.i k)] True (ints l false) := ⟨fun _ => g0⟩
      haveI : PC Try.prog 17 [.p (.i b), .p (.i c), .p (.i t), .p (.i k)] True (ints l false) := ⟨fun _ => g1⟩
      haveI : PC Try.prog 16 [stV b c m t, .p (.i k)] True (.p (.i (sumTo l l.length))) := ⟨fun _ => w1⟩
      clear hl g0 g1 w1
      have e0 : decide ((l.length : Int) ≠ (l.length : Int)) = false := decide_eq_false fun q => q rfl
      repeat' (first
          | refine rnB ?_
          | refine rnSB ?_
          | refine rnG ?_
          | refine rnU ?_
          | ((fail_if_success (refine rnKn ?_)); refine rnP ?_ ?_ <;> (intro hq; try (have hq' := hq; simp only [hqs] at hq')))
          | refine rkB ?_
          | refine rkSB ?_
          | refine rkF ?_
          | refine rkU ?_
          | ((fail_if_success (refine rkKn ?_)); refine rkP ?_ ?_ <;> (intro hq; try (have hq' := hq; simp only [hqs] at hq')))
          | refine stp ?_
          | refine aws_draws [] mixed (by kernel_rfl) ?_
          | refine ifT ?_
          | refine ifF ?_
          | (refine ifQ ?_ ?_ <;> (try (intro hn)))
          | (refine ifB ?_ ?_ <;> (intro hq; try (have hq' := hq; simp only [hqs] at hq'))))
      refine aws_loopS [4, 7, 8, 55, 56, 57, 58, 59, 60, 61, 62, 63, 64, 65, 66, 67, 68, 69, 70, 71, 72, 73, 74] [] (fun (i : Nat) => [(7, .p (.i (sumTo l i))), (8, .p (.i i))]) (fun _ => []) (fun i => i ≤ k) (fun i => k - i) 0 (Nat.zero_le _) (by exact knA) (by exact knA) ?_
      rintro i β γ hi
      have hs := sumTo_in (c := 0) hin i
      have hg := hin (i : Int).toNat
      by_cases hik : i < k
      · have hd : decide ((i : Int) < (k : Int)) = true := decide_eq_true (by omega)
        have e1 : decide (l.getD (i : Int).toNat default ≠ l.getD (i : Int).toNat default) = false := decide_eq_false fun q => q rfl
        repeat' (first
            | refine rnB ?_
            | refine rnSB ?_
            | refine rnG ?_
            | refine rnU ?_
            | ((fail_if_success (refine rnKn ?_)); refine rnP ?_ ?_ <;> (intro hq; try (have hq' := hq; simp only [hqs] at hq')))
            | refine rkB ?_
            | refine rkSB ?_
            | refine rkF ?_
            | refine rkU ?_
            | ((fail_if_success (refine rkKn ?_)); refine rkP ?_ ?_ <;> (intro hq; try (have hq' := hq; simp only [hqs] at hq')))
            | refine stp ?_
            | refine aws_draws [] mixed (by kernel_rfl) ?_
            | refine ifT ?_
            | refine ifF ?_
            | (refine ifQ ?_ ?_ <;> (try (intro hn)))
            | (refine ifB ?_ ?_ <;> (intro hq; try (have hq' := hq; simp only [hqs] at hq'))))
        refine ⟨i + 1, _, by omega, by omega, .refl, ?_⟩
        rw [show sumTo l (i + 1) = sumTo l i + l.getD (i : Int).toNat default by rw [sumTo, Int.toNat_natCast]]
        exact frA
      · have hd : decide ((i : Int) < (k : Int)) = false := decide_eq_false (by omega)
        obtain rfl : i = l.length := by omega
        have e2 : decide (sumTo l l.length = sumTo l l.length) = true := decide_eq_true rfl
        repeat' (first
            | refine rnB ?_
            | refine rnSB ?_
            | refine rnG ?_
            | refine rnU ?_
            | ((fail_if_success (refine rnKn ?_)); refine rnP ?_ ?_ <;> (intro hq; try (have hq' := hq; simp only [hqs] at hq')))
            | refine rkB ?_
            | refine rkSB ?_
            | refine rkF ?_
            | refine rkU ?_
            | ((fail_if_success (refine rkKn ?_)); refine rkP ?_ ?_ <;> (intro hq; try (have hq' := hq; simp only [hqs] at hq')))
            | refine stp ?_
            | refine aws_draws [] mixed (by kernel_rfl) ?_
            | refine ifT ?_
            | refine ifF ?_
            | (refine ifQ ?_ ?_ <;> (try (intro hn)))
            | (refine ifB ?_ ?_ <;> (intro hq; try (have hq' := hq; simp only [hqs] at hq'))))
        exact rt1 rfl rfl finS_p (rb e2.symm)
    | false =>
      haveI : PC Try.prog 6 [.p (.i b), .p (.i c), .p (.i m), .p (.i t)] True (.p (.b false)) := ⟨fun _ => by rw [← hR]; exact rright_w b c m t⟩
      have g0 := gaps_not b c m t n (.inl hR)
      have w1 := whole_l b c m t n [] (by decide) (fun i => by simp) g0
      haveI : PC Try.prog 15 [stV b c m t, .p (.i n)] True (ints [] false) := ⟨fun _ => g0⟩
      haveI : PC Try.prog 16 [stV b c m t, .p (.i n)] True (.p (.i 0)) := ⟨fun _ => w1⟩
      repeat' (first
          | refine rnB ?_
          | refine rnSB ?_
          | refine rnG ?_
          | refine rnU ?_
          | ((fail_if_success (refine rnKn ?_)); refine rnP ?_ ?_ <;> (intro hq; try (have hq' := hq; simp only [hqs] at hq')))
          | refine rkB ?_
          | refine rkSB ?_
          | refine rkF ?_
          | refine rkU ?_
          | ((fail_if_success (refine rkKn ?_)); refine rkP ?_ ?_ <;> (intro hq; try (have hq' := hq; simp only [hqs] at hq')))
          | refine stp ?_
          | refine aws_draws [] mixed (by kernel_rfl) ?_
          | refine ifT ?_
          | refine ifF ?_
          | (refine ifQ ?_ ?_ <;> (try (intro hn)))
          | (refine ifB ?_ ?_ <;> (intro hq; try (have hq' := hq; simp only [hqs] at hq'))))
      exact rt1 rfl rfl finS_p rfl
  · have g0 := gaps_not b c m t n (.inr hb)
    have w1 := whole_l b c m t n [] (by decide) (fun i => by simp) g0
    haveI : PC Try.prog 15 [stV b c m t, .p (.i n)] True (ints [] false) := ⟨fun _ => g0⟩
    haveI : PC Try.prog 16 [stV b c m t, .p (.i n)] True (.p (.i 0)) := ⟨fun _ => w1⟩
    by_cases h1 : n < 1
    · have hn1 : decide (n < 1) = true := decide_eq_true h1
      repeat' (first
          | refine rnB ?_
          | refine rnSB ?_
          | refine rnG ?_
          | refine rnU ?_
          | ((fail_if_success (refine rnKn ?_)); refine rnP ?_ ?_ <;> (intro hq; try (have hq' := hq; simp only [hqs] at hq')))
          | refine rkB ?_
          | refine rkSB ?_
          | refine rkF ?_
          | refine rkU ?_
          | ((fail_if_success (refine rkKn ?_)); refine rkP ?_ ?_ <;> (intro hq; try (have hq' := hq; simp only [hqs] at hq')))
          | refine stp ?_
          | refine aws_draws [] mixed (by kernel_rfl) ?_
          | refine ifT ?_
          | refine ifF ?_
          | (refine ifQ ?_ ?_ <;> (try (intro hn)))
          | (refine ifB ?_ ?_ <;> (intro hq; try (have hq' := hq; simp only [hqs] at hq'))))
      exact rt1 rfl rfl finS_p rfl
    · have hn1 : decide (n < 1) = false := decide_eq_false h1
      have hn2 : decide (1000 < n) = true := decide_eq_true (by omega)
      repeat' (first
          | refine rnB ?_
          | refine rnSB ?_
          | refine rnG ?_
          | refine rnU ?_
          | ((fail_if_success (refine rnKn ?_)); refine rnP ?_ ?_ <;> (intro hq; try (have hq' := hq; simp only [hqs] at hq')))
          | refine rkB ?_
          | refine rkSB ?_
          | refine rkF ?_
          | refine rkU ?_
          | ((fail_if_success (refine rkKn ?_)); refine rkP ?_ ?_ <;> (intro hq; try (have hq' := hq; simp only [hqs] at hq')))
          | refine stp ?_
          | refine aws_draws [] mixed (by kernel_rfl) ?_
          | refine ifT ?_
          | refine ifF ?_
          | (refine ifQ ?_ ?_ <;> (try (intro hn)))
          | (refine ifB ?_ ?_ <;> (intro hq; try (have hq' := hq; simp only [hqs] at hq'))))
      exact rt1 rfl rfl finS_p rfl
end Go.Proofs.Ytnmajoiafockgaa.Bo
