/- backoffs, the laws: BackoffRises -/
import Derived.Test.YtnmajoiafockgaaBo4
namespace Go.Proofs.Ytnmajoiafockgaa.Bo
open Go Go.RowKit Go.Aw Go.Aw.Bo
set_option linter.unusedVariables false
set_option linter.unusedSimpArgs false
set_option maxRecDepth 8000
set_option maxHeartbeats 4000000
theorem rises_w (b c m t n : Int) : PCall Try.prog 5 [stV b c m t, .p (.i n)] (.p (.b true)) := by
  refine pcall_of Try.func5 rfl (fun w0 F S0 M0 => ?_)
  cases hR : rightB b c m t with
  | false =>
    haveI : PC Try.prog 8 [stV b c m t] True (.p (.b false)) := ⟨fun _ => by rw [← hR]; exact right_w b c m t⟩
    repeat' (first
        | refine rnB ?_
        | refine rnSB ?_
        | refine rnG ?_
        | refine rnU ?_
        | ((fail_if_success (refine rnKn ?_)); refine rnP ?_ ?_ <;> (intro hq; try (have hq' := hq; simp only [hqs] at hq')))
        | refine rkB ?_
        | refine rkSB ?_
        | refine rkF ?_
        | refine rkU ?_
        | ((fail_if_success (refine rkKn ?_)); refine rkP ?_ ?_ <;> (intro hq; try (have hq' := hq; simp only [hqs] at hq')))
        | refine stp ?_
        | refine aws_draws [] mixed (by kernel_rfl) ?_
        | refine ifT ?_
        | refine ifF ?_
        | (refine ifQ ?_ ?_ <;> (try (intro hn)))
        | (refine ifB ?_ ?_ <;> (intro hq; try (have hq' := hq; simp only [hqs] at hq'))))
    exact rt1 rfl rfl finS_p rfl
  | true =>
    haveI : PC Try.prog 8 [stV b c m t] True (.p (.b true)) := ⟨fun _ => by rw [← hR]; exact right_w b c m t⟩
    have hr := right_of hR
    by_cases h1 : n < 1
    · have hn1 : decide (n < 1) = true := decide_eq_true h1
      repeat' (first
          | refine rnB ?_
          | refine rnSB ?_
          | refine rnG ?_
          | refine rnU ?_
          | ((fail_if_success (refine rnKn ?_)); refine rnP ?_ ?_ <;> (intro hq; try (have hq' := hq; simp only [hqs] at hq')))
          | refine rkB ?_
          | refine rkSB ?_
          | refine rkF ?_
          | refine rkU ?_
          | ((fail_if_success (refine rkKn ?_)); refine rkP ?_ ?_ <;> (intro hq; try (have hq' := hq; simp only [hqs] at hq')))
          | refine stp ?_
          | refine aws_draws [] mixed (by kernel_rfl) ?_
          | refine ifT ?_
          | refine ifF ?_
          | (refine ifQ ?_ ?_ <;> (try (intro hn)))
          | (refine ifB ?_ ?_ <;> (intro hq; try (have hq' := hq; simp only [hqs] at hq'))))
      exact rt1 rfl rfl finS_p rfl
    · have hn1 : decide (n < 1) = false := decide_eq_false h1
      by_cases h2 : 1000 < n
      · have hn2 : decide (1000 < n) = true := decide_eq_true h2
        repeat' (first
            | refine rnB ?_
            | refine rnSB ?_
            | refine rnG ?_
            | refine rnU ?_
            | ((fail_if_success (refine rnKn ?_)); refine rnP ?_ ?_ <;> (intro hq; try (have hq' := hq; simp only [hqs] at hq')))
            | refine rkB ?_
            | refine rkSB ?_
            | refine rkF ?_
            | refine rkU ?_
            | ((fail_if_success (refine rkKn ?_)); refine rkP ?_ ?_ <;> (intro hq; try (have hq' := hq; simp only [hqs] at hq')))
            | refine stp ?_
            | refine aws_draws [] mixed (by kernel_rfl) ?_
            | refine ifT ?_
            | refine ifF ?_
            | (refine ifQ ?_ ?_ <;> (try (intro hn)))
            | (refine ifB ?_ ?_ <;> (intro hq; try (have hq' := hq; simp only [hqs] at hq'))))
        exact rt1 rfl rfl finS_p rfl
      · have hn2 : decide (1000 < n) = false := decide_eq_false h2
        obtain ⟨k, rfl⟩ : ∃ k : Nat, n = k := ⟨n.toNat, by omega⟩
        obtain ⟨l, hl⟩ : ∃ l, l = gapsL b c t k := ⟨_, rfl⟩
        have hlk : l.length = k := by rw [hl]; exact gapsL_len
        have hin : ∀ i, i < k → b ≤ l.getD i default ∧ l.getD i default ≤ c := fun i hi => by rw [hl, gapsL_get hi]; exact gap_in (by omega) (by omega)
        have hst : ∀ i, i + 1 < k → l.getD i default ≤ l.getD (i + 1) default ∧ (l.getD (i + 1) default = c ∨ l.getD (i + 1) default = 2 * l.getD i default) := fun i hi => by
          rw [hl, gapsL_get (by omega), gapsL_get hi]; exact gap_tr (by omega) (by omega) (by omega) (by omega) i
        have g0 := gaps_w b c m t k hR (by omega) (by omega)
        rw [← hl] at g0
        haveI : PC Try.prog 15 [stV b c m t, .p (.i k)] True (ints l false) := ⟨fun _ => g0⟩
        clear hl g0
        repeat' (first
            | refine rnB ?_
            | refine rnSB ?_
            | refine rnG ?_
            | refine rnU ?_
            | ((fail_if_success (refine rnKn ?_)); refine rnP ?_ ?_ <;> (intro hq; try (have hq' := hq; simp only [hqs] at hq')))
            | refine rkB ?_
            | refine rkSB ?_
            | refine rkF ?_
            | refine rkU ?_
            | ((fail_if_success (refine rkKn ?_)); refine rkP ?_ ?_ <;> (intro hq; try (have hq' := hq; simp only [hqs] at hq')))
            | refine stp ?_
            | refine aws_draws [] mixed (by kernel_rfl) ?_
            | refine ifT ?_
            | refine ifF ?_
            | (refine ifQ ?_ ?_ <;> (try (intro hn)))
            | (refine ifB ?_ ?_ <;> (intro hq; try (have hq' := hq; simp only [hqs] at hq'))))
        refine aws_loopS [4, 6, 24, 25, 26, 27, 28, 29, 30, 31, 32, 33, 34, 35, 36, 37, 38, 39, 40, 41, 42, 43, 44, 45, 46, 47, 48, 49, 50, 51, 52, 53, 54, 55, 56, 57, 58, 59, 60, 61, 62, 63, 64, 65, 66, 67, 68, 69, 70, 71, 72, 73, 74, 75, 76, 77, 78, 79, 80, 81, 82, 83, 84, 85, 86, 87] [] (fun (i : Nat) => [(6, .p (.i i))]) (fun _ => []) (fun i => i ≤ k) (fun i => k - i) 0 (Nat.zero_le _) (by exact knA) (by exact knA) ?_
        rintro i β γ hi
        by_cases hik : i < k
        · have hd : decide ((i : Int) < (l.length : Int)) = true := decide_eq_true (by omega)
          have hi1 := hin i hik
          have c1 : decide (l.getD (i : Int).toNat default < b) = false := decide_eq_false (by rw [Int.toNat_natCast]; omega)
          have c2 : decide (c < l.getD (i : Int).toNat default) = false := decide_eq_false (by rw [Int.toNat_natCast]; omega)
          by_cases h0 : 0 < i
          · have c3 : decide (0 < (i : Int)) = true := decide_eq_true (by omega)
            have hs := hst (i - 1) (by omega)
            rw [show i - 1 + 1 = i by omega] at hs
            have hi2 := hin (i - 1) (by omega)
            have hx : 0 ≤ 2 * l.getD ((i : Int) - 1).toNat default ∧ 2 * l.getD ((i : Int) - 1).toNat default ≤ 4000000 := by rw [show ((i : Int) - 1).toNat = i - 1 by omega]; omega
            have c4 : decide (l.getD (i : Int).toNat default < l.getD ((i : Int) - 1).toNat default) = false := decide_eq_false (by rw [Int.toNat_natCast, show ((i : Int) - 1).toNat = i - 1 by omega]; omega)
            by_cases h5 : l.getD (i : Int).toNat default = c
            · have c5 : decide (l.getD (i : Int).toNat default ≠ c) = false := decide_eq_false fun q => q h5
              repeat' (first
                  | refine rnB ?_
                  | refine rnSB ?_
                  | refine rnG ?_
                  | refine rnU ?_
                  | ((fail_if_success (refine rnKn ?_)); refine rnP ?_ ?_ <;> (intro hq; try (have hq' := hq; simp only [hqs] at hq')))
                  | refine rkB ?_
                  | refine rkSB ?_
                  | refine rkF ?_
                  | refine rkU ?_
                  | ((fail_if_success (refine rkKn ?_)); refine rkP ?_ ?_ <;> (intro hq; try (have hq' := hq; simp only [hqs] at hq')))
                  | refine stp ?_
                  | refine aws_draws [] mixed (by kernel_rfl) ?_
                  | refine ifT ?_
                  | refine ifF ?_
                  | (refine ifQ ?_ ?_ <;> (try (intro hn)))
                  | (refine ifB ?_ ?_ <;> (intro hq; try (have hq' := hq; simp only [hqs] at hq'))))
              exact ⟨i + 1, _, by omega, by omega, .refl, by exact frA⟩
            · have c5 : decide (l.getD (i : Int).toNat default ≠ c) = true := decide_eq_true h5
              have c6 : decide (l.getD (i : Int).toNat default ≠ 2 * l.getD ((i : Int) - 1).toNat default) = false := decide_eq_false fun q => q (by
                rw [Int.toNat_natCast] at h5 ⊢
                rw [show ((i : Int) - 1).toNat = i - 1 by omega]
                exact hs.2.resolve_left h5)
              repeat' (first
                  | refine rnB ?_
                  | refine rnSB ?_
                  | refine rnG ?_
                  | refine rnU ?_
                  | ((fail_if_success (refine rnKn ?_)); refine rnP ?_ ?_ <;> (intro hq; try (have hq' := hq; simp only [hqs] at hq')))
                  | refine rkB ?_
                  | refine rkSB ?_
                  | refine rkF ?_
                  | refine rkU ?_
                  | ((fail_if_success (refine rkKn ?_)); refine rkP ?_ ?_ <;> (intro hq; try (have hq' := hq; simp only [hqs] at hq')))
                  | refine stp ?_
                  | refine aws_draws [] mixed (by kernel_rfl) ?_
                  | refine ifT ?_
                  | refine ifF ?_
                  | (refine ifQ ?_ ?_ <;> (try (intro hn)))
                  | (refine ifB ?_ ?_ <;> (intro hq; try (have hq' := hq; simp only [hqs] at hq'))))
              exact ⟨i + 1, _, by omega, by omega, .refl, by exact frA⟩
          · have c3 : decide (0 < (i : Int)) = false := decide_eq_false (by omega)
            repeat' (first
                | refine rnB ?_
                | refine rnSB ?_
                | refine rnG ?_
                | refine rnU ?_
                | ((fail_if_success (refine rnKn ?_)); refine rnP ?_ ?_ <;> (intro hq; try (have hq' := hq; simp only [hqs] at hq')))
                | refine rkB ?_
                | refine rkSB ?_
                | refine rkF ?_
                | refine rkU ?_
                | ((fail_if_success (refine rkKn ?_)); refine rkP ?_ ?_ <;> (intro hq; try (have hq' := hq; simp only [hqs] at hq')))
                | refine stp ?_
                | refine aws_draws [] mixed (by kernel_rfl) ?_
                | refine ifT ?_
                | refine ifF ?_
                | (refine ifQ ?_ ?_ <;> (try (intro hn)))
                | (refine ifB ?_ ?_ <;> (intro hq; try (have hq' := hq; simp only [hqs] at hq'))))
            exact ⟨i + 1, _, by omega, by omega, .refl, by exact frA⟩
        · have hd : decide ((i : Int) < (l.length : Int)) = false := decide_eq_false (by omega)
          have e6 : decide ((l.length : Int) = (k : Int)) = true := decide_eq_true (by omega)
          repeat' (first
              | refine rnB ?_
              | refine rnSB ?_
              | refine rnG ?_
              | refine rnU ?_
              | ((fail_if_success (refine rnKn ?_)); refine rnP ?_ ?_ <;> (intro hq; try (have hq' := hq; simp only [hqs] at hq')))
              | refine rkB ?_
              | refine rkSB ?_
              | refine rkF ?_
              | refine rkU ?_
              | ((fail_if_success (refine rkKn ?_)); refine rkP ?_ ?_ <;> (intro hq; try (have hq' := hq; simp only [hqs] at hq')))
              | refine stp ?_
              | refine aws_draws [] mixed (by kernel_rfl) ?_
              | refine ifT ?_
              | refine ifF ?_
              | (refine ifQ ?_ ?_ <;> (try (intro hn)))
              | (refine ifB ?_ ?_ <;> (intro hq; try (have hq' := hq; simp only [hqs] at hq'))))
          refine aws_loopS (7 :: [8, 89, 90, 91, 92, 93, 94]) [7] (fun (j : Nat) => [(7, .o (.ptr 7 0 0)), (8, .p (.i j))]) (fun j => [(7, (1, some (.box 23 (stL b c m (trF t j)))))]) (fun j => j ≤ 20) (fun j => 20 - j) 0 (Nat.zero_le _) (by exact knA) (by rw [trF_0 (by omega)]; exact knA) ?_
          rintro j β' γ' hj
          have htj := trF_in (t := t) (by omega) j
          have hrj : rightB b c m (trF t j) = true := right_mk (by omega)
          have hsj := trF_succ (t := t) (by omega) j
          by_cases hj20 : j < 20
          · have hd2 : decide ((j : Int) < 20) = true := decide_eq_true (by omega)
            repeat' (first
                | refine rnB ?_
                | refine rnSB ?_
                | refine rnG ?_
                | refine rnU ?_
                | ((fail_if_success (refine rnKn ?_)); refine rnP ?_ ?_ <;> (intro hq; try (have hq' := hq; simp only [hqs] at hq')))
                | refine rkB ?_
                | refine rkSB ?_
                | refine rkF ?_
                | refine rkU ?_
                | ((fail_if_success (refine rkKn ?_)); refine rkP ?_ ?_ <;> (intro hq; try (have hq' := hq; simp only [hqs] at hq')))
                | refine stp ?_
                | refine aws_draws [] mixed (by kernel_rfl) ?_
                | refine ifT ?_
                | refine ifF ?_
                | (refine ifQ ?_ ?_ <;> (try (intro hn)))
                | (refine ifB ?_ ?_ <;> (intro hq; try (have hq' := hq; simp only [hqs] at hq'))))
            refine ⟨j + 1, _, by omega, by omega, .refl, ?_⟩
            rw [hsj]
            exact frA
          · have hd2 : decide ((j : Int) < 20) = false := decide_eq_false (by omega)
            obtain rfl : j = 20 := by omega
            have hgb : gapF b c (trF t 20).toNat = c := gap_big (by omega) (by omega) (by unfold trF; split <;> omega)
            have gg := gap_w b c m (trF t 20) hrj
            rw [hgb] at gg
            generalize trF t 20 = tt at *
            haveI : PC Try.prog 10 [stV b c m tt] True (.p (.i c)) := ⟨fun _ => gg⟩
            have ecc : decide (c = c) = true := decide_eq_true rfl
            repeat' (first
                | refine rnB ?_
                | refine rnSB ?_
                | refine rnG ?_
                | refine rnU ?_
                | ((fail_if_success (refine rnKn ?_)); refine rnP ?_ ?_ <;> (intro hq; try (have hq' := hq; simp only [hqs] at hq')))
                | refine rkB ?_
                | refine rkSB ?_
                | refine rkF ?_
                | refine rkU ?_
                | ((fail_if_success (refine rkKn ?_)); refine rkP ?_ ?_ <;> (intro hq; try (have hq' := hq; simp only [hqs] at hq')))
                | refine stp ?_
                | refine aws_draws [] mixed (by kernel_rfl) ?_
                | refine ifT ?_
                | refine ifF ?_
                | (refine ifQ ?_ ?_ <;> (try (intro hn)))
                | (refine ifB ?_ ?_ <;> (intro hq; try (have hq' := hq; simp only [hqs] at hq'))))
            exact rt1 rfl rfl finS_p (rb ecc.symm)
end Go.Proofs.Ytnmajoiafockgaa.Bo
