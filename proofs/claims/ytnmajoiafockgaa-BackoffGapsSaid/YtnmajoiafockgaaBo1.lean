/- backoffs: one backoff -/
import Derived.Test.YtnmajoiafockgaaBoM
import Derived.Test.YtnmajoiafockgaaKi
import Derived.Test.YtnmajoiafockgaaTy
namespace Go.Proofs.Ytnmajoiafockgaa.Bo
open Go Go.RowKit Go.Aw Go.Aw.Bo
set_option linter.unusedVariables false
set_option linter.unusedSimpArgs false
set_option maxRecDepth 8000
set_option maxHeartbeats 4000000
abbrev stL (b c m t : Int) : List AC := [.p (.i b), .p (.i c), .p (.i m), .p (.i t)]
abbrev stV (b c m t : Int) : AV := .a (stL b c m t)
def win (n a b : Int) : Bool := decide (a ≤ n ∧ n ≤ b)
theorem within_w (n a b : Int) : PCall Try.prog 18 [.p (.i n), .p (.i a), .p (.i b)] (.p (.b (win n a b))) := by
  refine pcall_of Try.func18 rfl (fun w0 F S0 M0 => ?_)
  unfold win
  repeat' (first
      | refine rnB ?_
      | refine rnSB ?_
      | refine rnG ?_
      | refine rnU ?_
      | ((fail_if_success (refine rnKn ?_)); refine rnP ?_ ?_ <;> (intro hq; try (have hq' := hq; simp only [hqs] at hq')))
      | refine rkB ?_
      | refine rkSB ?_
      | refine rkF ?_
      | refine rkU ?_
      | ((fail_if_success (refine rkKn ?_)); refine rkP ?_ ?_ <;> (intro hq; try (have hq' := hq; simp only [hqs] at hq')))
      | refine stp ?_
      | refine aws_draws [] mixed (by kernel_rfl) ?_
      | refine ifT ?_
      | refine ifF ?_
      | (refine ifQ ?_ ?_ <;> (try (intro hn)))
      | (refine ifB ?_ ?_ <;> (intro hq; try (have hq' := hq; simp only [hqs] at hq'))))
  all_goals refine rt1 rfl rfl finS_p (rb ?_)
  all_goals first | exact decide_eq_decide.2 (by omega) | exact decide_eq_true (by omega) | exact decide_eq_false (by omega)
instance {n a b : Int} : PC Try.prog 18 [.p (.i n), .p (.i a), .p (.i b)] True (.p (.b (win n a b))) := ⟨fun _ => within_w n a b⟩
theorem right_w (b c m t : Int) : PCall Try.prog 8 [stV b c m t] (.p (.b (rightB b c m t))) := by
  refine pcall_of Try.func8 rfl (fun w0 F S0 M0 => ?_)
  unfold rightB
  cases h1 : win b 1 1000 with
  | false =>
    repeat' (first
        | refine rnB ?_
        | refine rnSB ?_
        | refine rnG ?_
        | refine rnU ?_
        | ((fail_if_success (refine rnKn ?_)); refine rnP ?_ ?_ <;> (intro hq; try (have hq' := hq; simp only [hqs] at hq')))
        | refine rkB ?_
        | refine rkSB ?_
        | refine rkF ?_
        | refine rkU ?_
        | ((fail_if_success (refine rkKn ?_)); refine rkP ?_ ?_ <;> (intro hq; try (have hq' := hq; simp only [hqs] at hq')))
        | refine stp ?_
        | refine aws_draws [] mixed (by kernel_rfl) ?_
        | refine ifT ?_
        | refine ifF ?_
        | (refine ifQ ?_ ?_ <;> (try (intro hn)))
        | (refine ifB ?_ ?_ <;> (intro hq; try (have hq' := hq; simp only [hqs] at hq'))))
    refine rt1 rfl rfl finS_p (rb ?_)
    have := of_decide_eq_false h1
    exact decide_eq_false (by omega)
  | true =>
    have k1 := of_decide_eq_true h1
    cases h2 : win c b 1048576 with
    | false =>
      repeat' (first
          | refine rnB ?_
          | refine rnSB ?_
          | refine rnG ?_
          | refine rnU ?_
          | ((fail_if_success (refine rnKn ?_)); refine rnP ?_ ?_ <;> (intro hq; try (have hq' := hq; simp only [hqs] at hq')))
          | refine rkB ?_
          | refine rkSB ?_
          | refine rkF ?_
          | refine rkU ?_
          | ((fail_if_success (refine rkKn ?_)); refine rkP ?_ ?_ <;> (intro hq; try (have hq' := hq; simp only [hqs] at hq')))
          | refine stp ?_
          | refine aws_draws [] mixed (by kernel_rfl) ?_
          | refine ifT ?_
          | refine ifF ?_
          | (refine ifQ ?_ ?_ <;> (try (intro hn)))
          | (refine ifB ?_ ?_ <;> (intro hq; try (have hq' := hq; simp only [hqs] at hq'))))
      refine rt1 rfl rfl finS_p (rb ?_)
      have := of_decide_eq_false h2
      exact decide_eq_false (by omega)
    | true =>
      have k2 := of_decide_eq_true h2
      cases h3 : win m 1 1073741824 with
      | false =>
        repeat' (first
            | refine rnB ?_
            | refine rnSB ?_
            | refine rnG ?_
            | refine rnU ?_
            | ((fail_if_success (refine rnKn ?_)); refine rnP ?_ ?_ <;> (intro hq; try (have hq' := hq; simp only [hqs] at hq')))
            | refine rkB ?_
            | refine rkSB ?_
            | refine rkF ?_
            | refine rkU ?_
            | ((fail_if_success (refine rkKn ?_)); refine rkP ?_ ?_ <;> (intro hq; try (have hq' := hq; simp only [hqs] at hq')))
            | refine stp ?_
            | refine aws_draws [] mixed (by kernel_rfl) ?_
            | refine ifT ?_
            | refine ifF ?_
            | (refine ifQ ?_ ?_ <;> (try (intro hn)))
            | (refine ifB ?_ ?_ <;> (intro hq; try (have hq' := hq; simp only [hqs] at hq'))))
        refine rt1 rfl rfl finS_p (rb ?_)
        have := of_decide_eq_false h3
        exact decide_eq_false (by omega)
      | true =>
        have k3 := of_decide_eq_true h3
        repeat' (first
            | refine rnB ?_
            | refine rnSB ?_
            | refine rnG ?_
            | refine rnU ?_
            | ((fail_if_success (refine rnKn ?_)); refine rnP ?_ ?_ <;> (intro hq; try (have hq' := hq; simp only [hqs] at hq')))
            | refine rkB ?_
            | refine rkSB ?_
            | refine rkF ?_
            | refine rkU ?_
            | ((fail_if_success (refine rkKn ?_)); refine rkP ?_ ?_ <;> (intro hq; try (have hq' := hq; simp only [hqs] at hq')))
            | refine stp ?_
            | refine aws_draws [] mixed (by kernel_rfl) ?_
            | refine ifT ?_
            | refine ifF ?_
            | (refine ifQ ?_ ?_ <;> (try (intro hn)))
            | (refine ifB ?_ ?_ <;> (intro hq; try (have hq' := hq; simp only [hqs] at hq'))))
        refine rt1 rfl rfl finS_p (rb ?_)
        exact decide_eq_decide.2 (by omega)
instance {b c m t : Int} : PC Try.prog 8 [stV b c m t] True (.p (.b (rightB b c m t))) := ⟨fun _ => right_w b c m t⟩
theorem rright_w (b c m t : Int) : PCall Try.prog 6 [.p (.i b), .p (.i c), .p (.i m), .p (.i t)] (.p (.b (rightB b c m t))) := by
  refine pcall_of Try.func6 rfl (fun w0 F S0 M0 => ?_)
  unfold rightB
  repeat' (first
      | refine rnB ?_
      | refine rnSB ?_
      | refine rnG ?_
      | refine rnU ?_
      | ((fail_if_success (refine rnKn ?_)); refine rnP ?_ ?_ <;> (intro hq; try (have hq' := hq; simp only [hqs] at hq')))
      | refine rkB ?_
      | refine rkSB ?_
      | refine rkF ?_
      | refine rkU ?_
      | ((fail_if_success (refine rkKn ?_)); refine rkP ?_ ?_ <;> (intro hq; try (have hq' := hq; simp only [hqs] at hq')))
      | refine stp ?_
      | refine aws_draws [] mixed (by kernel_rfl) ?_
      | refine ifT ?_
      | refine ifF ?_
      | (refine ifQ ?_ ?_ <;> (try (intro hn)))
      | (refine ifB ?_ ?_ <;> (intro hq; try (have hq' := hq; simp only [hqs] at hq'))))
  all_goals refine rt1 rfl rfl finS_p (rb ?_)
  all_goals first | exact decide_eq_decide.2 (by omega) | exact decide_eq_true (by omega) | exact decide_eq_false (by omega)
instance {b c m t : Int} : PC Try.prog 6 [.p (.i b), .p (.i c), .p (.i m), .p (.i t)] True (.p (.b (rightB b c m t))) := ⟨fun _ => rright_w b c m t⟩
theorem gap_w (b c m t : Int) (h : rightB b c m t = true) : PCall Try.prog 10 [stV b c m t] (.p (.i (gapF b c t.toNat))) := by
  refine pcall_of Try.func10 rfl (fun w0 F S0 M0 => ?_)
  have hn : (!rightB b c m t) = false := by rw [h]; rfl
  have hr := right_of h
  repeat' (first
      | refine rnB ?_
      | refine rnSB ?_
      | refine rnG ?_
      | refine rnU ?_
      | ((fail_if_success (refine rnKn ?_)); refine rnP ?_ ?_ <;> (intro hq; try (have hq' := hq; simp only [hqs] at hq')))
      | refine rkB ?_
      | refine rkSB ?_
      | refine rkF ?_
      | refine rkU ?_
      | ((fail_if_success (refine rkKn ?_)); refine rkP ?_ ?_ <;> (intro hq; try (have hq' := hq; simp only [hqs] at hq')))
      | refine stp ?_
      | refine aws_draws [] mixed (by kernel_rfl) ?_
      | refine ifT ?_
      | refine ifF ?_
      | (refine ifQ ?_ ?_ <;> (try (intro hn)))
      | (refine ifB ?_ ?_ <;> (intro hq; try (have hq' := hq; simp only [hqs] at hq'))))
  refine aws_loopS [3, 4, 10, 11, 12, 13, 14, 15, 16, 17, 18, 19, 20, 21, 22, 23] [] (fun (i : Nat) => [(3, .p (.i (pw b i))), (4, .p (.i i))]) (fun _ => []) (fun i => (i : Int) ≤ t ∧ pw b i ≤ 2 * c) (fun i => t.toNat - i) 0 ⟨by omega, by show b ≤ 2 * c; omega⟩ (by exact knA) (by exact knA) ?_
  rintro i β γ ⟨hi, hp⟩
  have hpp := pw_pos (b := b) (by omega) i
  by_cases hit : (i : Int) < t
  · have hd : decide ((i : Int) < t) = true := decide_eq_true hit
    by_cases hpc : pw b i < c
    · have hd2 : decide (pw b i < c) = true := decide_eq_true hpc
      repeat' (first
          | refine rnB ?_
          | refine rnSB ?_
          | refine rnG ?_
          | refine rnU ?_
          | ((fail_if_success (refine rnKn ?_)); refine rnP ?_ ?_ <;> (intro hq; try (have hq' := hq; simp only [hqs] at hq')))
          | refine rkB ?_
          | refine rkSB ?_
          | refine rkF ?_
          | refine rkU ?_
          | ((fail_if_success (refine rkKn ?_)); refine rkP ?_ ?_ <;> (intro hq; try (have hq' := hq; simp only [hqs] at hq')))
          | refine stp ?_
          | refine aws_draws [] mixed (by kernel_rfl) ?_
          | refine ifT ?_
          | refine ifF ?_
          | (refine ifQ ?_ ?_ <;> (try (intro hn)))
          | (refine ifB ?_ ?_ <;> (intro hq; try (have hq' := hq; simp only [hqs] at hq'))))
      exact ⟨i + 1, _, by omega, ⟨by omega, by rw [pw]; omega⟩, .refl, by exact frA⟩
    · have hd2 : decide (pw b i < c) = false := decide_eq_false hpc
      have hm := pw_mono (b := b) (by omega) (i := i) (j := t.toNat) (by omega)
      repeat' (first
          | refine rnB ?_
          | refine rnSB ?_
          | refine rnG ?_
          | refine rnU ?_
          | ((fail_if_success (refine rnKn ?_)); refine rnP ?_ ?_ <;> (intro hq; try (have hq' := hq; simp only [hqs] at hq')))
          | refine rkB ?_
          | refine rkSB ?_
          | refine rkF ?_
          | refine rkU ?_
          | ((fail_if_success (refine rkKn ?_)); refine rkP ?_ ?_ <;> (intro hq; try (have hq' := hq; simp only [hqs] at hq')))
          | refine stp ?_
          | refine aws_draws [] mixed (by kernel_rfl) ?_
          | refine ifT ?_
          | refine ifF ?_
          | (refine ifQ ?_ ?_ <;> (try (intro hn)))
          | (refine ifB ?_ ?_ <;> (intro hq; try (have hq' := hq; simp only [hqs] at hq'))))
      refine rt1 rfl rfl finS_p (ri ?_)
      unfold gapF
      split <;> split <;> omega
  · have hd : decide ((i : Int) < t) = false := decide_eq_false hit
    obtain rfl : t = i := by omega
    repeat' (first
        | refine rnB ?_
        | refine rnSB ?_
        | refine rnG ?_
        | refine rnU ?_
        | ((fail_if_success (refine rnKn ?_)); refine rnP ?_ ?_ <;> (intro hq; try (have hq' := hq; simp only [hqs] at hq')))
        | refine rkB ?_
        | refine rkSB ?_
        | refine rkF ?_
        | refine rkU ?_
        | ((fail_if_success (refine rkKn ?_)); refine rkP ?_ ?_ <;> (intro hq; try (have hq' := hq; simp only [hqs] at hq')))
        | refine stp ?_
        | refine aws_draws [] mixed (by kernel_rfl) ?_
        | refine ifT ?_
        | refine ifF ?_
        | (refine ifQ ?_ ?_ <;> (try (intro hn)))
        | (refine ifB ?_ ?_ <;> (intro hq; try (have hq' := hq; simp only [hqs] at hq'))))
    refine rt1 rfl rfl finS_p (ri ?_)
    unfold gapF
    rw [Int.toNat_natCast]
instance {b c m t : Int} : PC Try.prog 10 [stV b c m t] (rightB b c m t = true) (.p (.i (gapF b c t.toNat))) := ⟨gap_w b c m t⟩
theorem gap_not (b c m t : Int) (h : rightB b c m t = false) : PCall Try.prog 10 [stV b c m t] (.p (.i 0)) := by
  refine pcall_of Try.func10 rfl (fun w0 F S0 M0 => ?_)
  have hn : (!rightB b c m t) = true := by rw [h]; rfl
  repeat' (first
      | refine rnB ?_
      | refine rnSB ?_
      | refine rnG ?_
      | refine rnU ?_
      | ((fail_if_success (refine rnKn ?_)); refine rnP ?_ ?_ <;> (intro hq; try (have hq' := hq; simp only [hqs] at hq')))
      | refine rkB ?_
      | refine rkSB ?_
      | refine rkF ?_
      | refine rkU ?_
      | ((fail_if_success (refine rkKn ?_)); refine rkP ?_ ?_ <;> (intro hq; try (have hq' := hq; simp only [hqs] at hq')))
      | refine stp ?_
      | refine aws_draws [] mixed (by kernel_rfl) ?_
      | refine ifT ?_
      | refine ifF ?_
      | (refine ifQ ?_ ?_ <;> (try (intro hn)))
      | (refine ifB ?_ ?_ <;> (intro hq; try (have hq' := hq; simp only [hqs] at hq'))))
  exact rt1 rfl rfl finS_p rfl
theorem rgap_w (b c m t : Int) (h : rightB b c m t = true) : PCall Try.prog 14 [.p (.i b), .p (.i c), .p (.i t)] (.p (.i (gapF b c t.toNat))) := by
  refine pcall_of Try.func14 rfl (fun w0 F S0 M0 => ?_)
  have hn : (!rightB b c m t) = false := by rw [h]; rfl
  have hr := right_of h
  repeat' (first
      | refine rnB ?_
      | refine rnSB ?_
      | refine rnG ?_
      | refine rnU ?_
      | ((fail_if_success (refine rnKn ?_)); refine rnP ?_ ?_ <;> (intro hq; try (have hq' := hq; simp only [hqs] at hq')))
      | refine rkB ?_
      | refine rkSB ?_
      | refine rkF ?_
      | refine rkU ?_
      | ((fail_if_success (refine rkKn ?_)); refine rkP ?_ ?_ <;> (intro hq; try (have hq' := hq; simp only [hqs] at hq')))
      | refine stp ?_
      | refine aws_draws [] mixed (by kernel_rfl) ?_
      | refine ifT ?_
      | refine ifF ?_
      | (refine ifQ ?_ ?_ <;> (try (intro hn)))
      | (refine ifB ?_ ?_ <;> (intro hq; try (have hq' := hq; simp only [hqs] at hq'))))
  refine aws_loopS [7, 8, 10, 11, 12, 13, 14, 15, 16, 17, 18, 19, 20] [] (fun (i : Nat) => [(7, .p (.i (pw b i))), (8, .p (.i i))]) (fun _ => []) (fun i => (i : Int) ≤ t ∧ i ≤ 30) (fun i => 30 - i) 0 ⟨by omega, by omega⟩ (by exact knA) (by exact knA) ?_
  rintro i β γ ⟨hi, hp⟩
  have hpp := pw_pos (b := b) (by omega) i
  have hpb := pw_30 (b := b) (i := i) (by omega) (by omega) hp
  by_cases hit : (i : Int) < t
  · have hd : decide ((i : Int) < t) = true := decide_eq_true hit
    by_cases hpc : i < 30
    · have hd2 : decide ((i : Int) < 30) = true := decide_eq_true (by omega)
      repeat' (first
          | refine rnB ?_
          | refine rnSB ?_
          | refine rnG ?_
          | refine rnU ?_
          | ((fail_if_success (refine rnKn ?_)); refine rnP ?_ ?_ <;> (intro hq; try (have hq' := hq; simp only [hqs] at hq')))
          | refine rkB ?_
          | refine rkSB ?_
          | refine rkF ?_
          | refine rkU ?_
          | ((fail_if_success (refine rkKn ?_)); refine rkP ?_ ?_ <;> (intro hq; try (have hq' := hq; simp only [hqs] at hq')))
          | refine stp ?_
          | refine aws_draws [] mixed (by kernel_rfl) ?_
          | refine ifT ?_
          | refine ifF ?_
          | (refine ifQ ?_ ?_ <;> (try (intro hn)))
          | (refine ifB ?_ ?_ <;> (intro hq; try (have hq' := hq; simp only [hqs] at hq'))))
      refine ⟨i + 1, _, by omega, ⟨by omega, by omega⟩, .refl, ?_⟩
      rw [show pw b (i + 1) = 2 * pw b i from by rw [pw, Int.mul_comm]]
      exact frA
    · have hd2 : decide ((i : Int) < 30) = false := decide_eq_false (by omega)
      have h20 := pw_20 (b := b) (by omega) (i := i) (by omega)
      have h21 := pw_mono (b := b) (by omega) (i := i) (j := t.toNat) (by omega)
      have h22 := pw_mono (b := b) (by omega) (i := 21) (j := i) (by omega)
      have h23 := pw_20 (b := b) (by omega) (i := 20) (by omega)
      have h24 : pw b 21 = pw b 20 * 2 := rfl
      have hcc : decide (c < pw b i) = true := decide_eq_true (by omega)
      repeat' (first
          | refine rnB ?_
          | refine rnSB ?_
          | refine rnG ?_
          | refine rnU ?_
          | ((fail_if_success (refine rnKn ?_)); refine rnP ?_ ?_ <;> (intro hq; try (have hq' := hq; simp only [hqs] at hq')))
          | refine rkB ?_
          | refine rkSB ?_
          | refine rkF ?_
          | refine rkU ?_
          | ((fail_if_success (refine rkKn ?_)); refine rkP ?_ ?_ <;> (intro hq; try (have hq' := hq; simp only [hqs] at hq')))
          | refine stp ?_
          | refine aws_draws [] mixed (by kernel_rfl) ?_
          | refine ifT ?_
          | refine ifF ?_
          | (refine ifQ ?_ ?_ <;> (try (intro hn)))
          | (refine ifB ?_ ?_ <;> (intro hq; try (have hq' := hq; simp only [hqs] at hq'))))
      refine rt1 rfl rfl finS_p (ri ?_)
      unfold gapF
      rw [if_pos (by omega)]
  · have hd : decide ((i : Int) < t) = false := decide_eq_false hit
    obtain rfl : t = i := by omega
    unfold gapF
    rw [Int.toNat_natCast]
    repeat' (first
        | refine rnB ?_
        | refine rnSB ?_
        | refine rnG ?_
        | refine rnU ?_
        | ((fail_if_success (refine rnKn ?_)); refine rnP ?_ ?_ <;> (intro hq; try (have hq' := hq; simp only [hqs] at hq')))
        | refine rkB ?_
        | refine rkSB ?_
        | refine rkF ?_
        | refine rkU ?_
        | ((fail_if_success (refine rkKn ?_)); refine rkP ?_ ?_ <;> (intro hq; try (have hq' := hq; simp only [hqs] at hq')))
        | refine stp ?_
        | refine aws_draws [] mixed (by kernel_rfl) ?_
        | refine ifT ?_
        | refine ifF ?_
        | (refine ifQ ?_ ?_ <;> (try (intro hn)))
        | (refine ifB ?_ ?_ <;> (intro hq; try (have hq' := hq; simp only [hqs] at hq'))))
    all_goals refine rt1 rfl rfl finS_p (ri ?_)
    · rw [if_pos (by omega)]
    · rw [if_neg (by omega)]
theorem next_w (b c m t : Int) (h : rightB b c m t = true) : PCall Try.prog 11 [stV b c m t] (stV b c m (nxF t)) := by
  refine pcall_of Try.func11 rfl (fun w0 F S0 M0 => ?_)
  have hn : (!rightB b c m t) = false := by rw [h]; rfl
  have hr := right_of h
  unfold nxF
  by_cases ht : t < 1073741824
  · have hd : decide (t < 1073741824) = true := decide_eq_true ht
    rw [if_pos ht]
    repeat' (first
        | refine rnB ?_
        | refine rnSB ?_
        | refine rnG ?_
        | refine rnU ?_
        | ((fail_if_success (refine rnKn ?_)); refine rnP ?_ ?_ <;> (intro hq; try (have hq' := hq; simp only [hqs] at hq')))
        | refine rkB ?_
        | refine rkSB ?_
        | refine rkF ?_
        | refine rkU ?_
        | ((fail_if_success (refine rkKn ?_)); refine rkP ?_ ?_ <;> (intro hq; try (have hq' := hq; simp only [hqs] at hq')))
        | refine stp ?_
        | refine aws_draws [] mixed (by kernel_rfl) ?_
        | refine ifT ?_
        | refine ifF ?_
        | (refine ifQ ?_ ?_ <;> (try (intro hn)))
        | (refine ifB ?_ ?_ <;> (intro hq; try (have hq' := hq; simp only [hqs] at hq'))))
    exact rc1 rfl rfl rfl rfl rfl rfl finL_p rfl
  · have hd : decide (t < 1073741824) = false := decide_eq_false ht
    rw [if_neg ht]
    repeat' (first
        | refine rnB ?_
        | refine rnSB ?_
        | refine rnG ?_
        | refine rnU ?_
        | ((fail_if_success (refine rnKn ?_)); refine rnP ?_ ?_ <;> (intro hq; try (have hq' := hq; simp only [hqs] at hq')))
        | refine rkB ?_
        | refine rkSB ?_
        | refine rkF ?_
        | refine rkU ?_
        | ((fail_if_success (refine rkKn ?_)); refine rkP ?_ ?_ <;> (intro hq; try (have hq' := hq; simp only [hqs] at hq')))
        | refine stp ?_
        | refine aws_draws [] mixed (by kernel_rfl) ?_
        | refine ifT ?_
        | refine ifF ?_
        | (refine ifQ ?_ ?_ <;> (try (intro hn)))
        | (refine ifB ?_ ?_ <;> (intro hq; try (have hq' := hq; simp only [hqs] at hq'))))
    exact rc1 rfl rfl rfl rfl rfl rfl finL_p rfl
instance {b c m t : Int} : PC Try.prog 11 [stV b c m t] (rightB b c m t = true) (stV b c m (nxF t)) := ⟨next_w b c m t⟩
theorem next_not (b c m t : Int) (h : rightB b c m t = false) : PCall Try.prog 11 [stV b c m t] (stV b c m t) := by
  refine pcall_of Try.func11 rfl (fun w0 F S0 M0 => ?_)
  have hn : (!rightB b c m t) = true := by rw [h]; rfl
  repeat' (first
      | refine rnB ?_
      | refine rnSB ?_
      | refine rnG ?_
      | refine rnU ?_
      | ((fail_if_success (refine rnKn ?_)); refine rnP ?_ ?_ <;> (intro hq; try (have hq' := hq; simp only [hqs] at hq')))
      | refine rkB ?_
      | refine rkSB ?_
      | refine rkF ?_
      | refine rkU ?_
      | ((fail_if_success (refine rkKn ?_)); refine rkP ?_ ?_ <;> (intro hq; try (have hq' := hq; simp only [hqs] at hq')))
      | refine stp ?_
      | refine aws_draws [] mixed (by kernel_rfl) ?_
      | refine ifT ?_
      | refine ifF ?_
      | (refine ifQ ?_ ?_ <;> (try (intro hn)))
      | (refine ifB ?_ ?_ <;> (intro hq; try (have hq' := hq; simp only [hqs] at hq'))))
  exact rc1 rfl rfl rfl rfl rfl rfl finL_p rfl
theorem reset_w (b c m t : Int) (h : rightB b c m t = true) : PCall Try.prog 12 [stV b c m t] (stV b c m 0) := by
  refine pcall_of Try.func12 rfl (fun w0 F S0 M0 => ?_)
  have hn : (!rightB b c m t) = false := by rw [h]; rfl
  repeat' (first
      | refine rnB ?_
      | refine rnSB ?_
      | refine rnG ?_
      | refine rnU ?_
      | ((fail_if_success (refine rnKn ?_)); refine rnP ?_ ?_ <;> (intro hq; try (have hq' := hq; simp only [hqs] at hq')))
      | refine rkB ?_
      | refine rkSB ?_
      | refine rkF ?_
      | refine rkU ?_
      | ((fail_if_success (refine rkKn ?_)); refine rkP ?_ ?_ <;> (intro hq; try (have hq' := hq; simp only [hqs] at hq')))
      | refine stp ?_
      | refine aws_draws [] mixed (by kernel_rfl) ?_
      | refine ifT ?_
      | refine ifF ?_
      | (refine ifQ ?_ ?_ <;> (try (intro hn)))
      | (refine ifB ?_ ?_ <;> (intro hq; try (have hq' := hq; simp only [hqs] at hq'))))
  exact rc1 rfl rfl rfl rfl rfl rfl finL_p rfl
instance {b c m t : Int} : PC Try.prog 12 [stV b c m t] (rightB b c m t = true) (stV b c m 0) := ⟨reset_w b c m t⟩
theorem reset_not (b c m t : Int) (h : rightB b c m t = false) : PCall Try.prog 12 [stV b c m t] (stV b c m t) := by
  refine pcall_of Try.func12 rfl (fun w0 F S0 M0 => ?_)
  have hn : (!rightB b c m t) = true := by rw [h]; rfl
  repeat' (first
      | refine rnB ?_
      | refine rnSB ?_
      | refine rnG ?_
      | refine rnU ?_
      | ((fail_if_success (refine rnKn ?_)); refine rnP ?_ ?_ <;> (intro hq; try (have hq' := hq; simp only [hqs] at hq')))
      | refine rkB ?_
      | refine rkSB ?_
      | refine rkF ?_
      | refine rkU ?_
      | ((fail_if_success (refine rkKn ?_)); refine rkP ?_ ?_ <;> (intro hq; try (have hq' := hq; simp only [hqs] at hq')))
      | refine stp ?_
      | refine aws_draws [] mixed (by kernel_rfl) ?_
      | refine ifT ?_
      | refine ifF ?_
      | (refine ifQ ?_ ?_ <;> (try (intro hn)))
      | (refine ifB ?_ ?_ <;> (intro hq; try (have hq' := hq; simp only [hqs] at hq'))))
  exact rc1 rfl rfl rfl rfl rfl rfl finL_p rfl
theorem spent_w (b c m t : Int) (h : rightB b c m t = true) : PCall Try.prog 13 [stV b c m t] (.p (.b (decide (m ≤ t)))) := by
  refine pcall_of Try.func13 rfl (fun w0 F S0 M0 => ?_)
  have hn : (!rightB b c m t) = false := by rw [h]; rfl
  repeat' (first
      | refine rnB ?_
      | refine rnSB ?_
      | refine rnG ?_
      | refine rnU ?_
      | ((fail_if_success (refine rnKn ?_)); refine rnP ?_ ?_ <;> (intro hq; try (have hq' := hq; simp only [hqs] at hq')))
      | refine rkB ?_
      | refine rkSB ?_
      | refine rkF ?_
      | refine rkU ?_
      | ((fail_if_success (refine rkKn ?_)); refine rkP ?_ ?_ <;> (intro hq; try (have hq' := hq; simp only [hqs] at hq')))
      | refine stp ?_
      | refine aws_draws [] mixed (by kernel_rfl) ?_
      | refine ifT ?_
      | refine ifF ?_
      | (refine ifQ ?_ ?_ <;> (try (intro hn)))
      | (refine ifB ?_ ?_ <;> (intro hq; try (have hq' := hq; simp only [hqs] at hq'))))
  exact rt1 rfl rfl finS_p rfl
instance {b c m t : Int} : PC Try.prog 13 [stV b c m t] (rightB b c m t = true) (.p (.b (decide (m ≤ t)))) := ⟨spent_w b c m t⟩
theorem spent_not (b c m t : Int) (h : rightB b c m t = false) : PCall Try.prog 13 [stV b c m t] (.p (.b true)) := by
  refine pcall_of Try.func13 rfl (fun w0 F S0 M0 => ?_)
  have hn : (!rightB b c m t) = true := by rw [h]; rfl
  repeat' (first
      | refine rnB ?_
      | refine rnSB ?_
      | refine rnG ?_
      | refine rnU ?_
      | ((fail_if_success (refine rnKn ?_)); refine rnP ?_ ?_ <;> (intro hq; try (have hq' := hq; simp only [hqs] at hq')))
      | refine rkB ?_
      | refine rkSB ?_
      | refine rkF ?_
      | refine rkU ?_
      | ((fail_if_success (refine rkKn ?_)); refine rkP ?_ ?_ <;> (intro hq; try (have hq' := hq; simp only [hqs] at hq')))
      | refine stp ?_
      | refine aws_draws [] mixed (by kernel_rfl) ?_
      | refine ifT ?_
      | refine ifF ?_
      | (refine ifQ ?_ ?_ <;> (try (intro hn)))
      | (refine ifB ?_ ?_ <;> (intro hq; try (have hq' := hq; simp only [hqs] at hq'))))
  exact rt1 rfl rfl finS_p rfl
theorem new_w (b c m : Int) (h : rightB b c m 0 = true) : PCall Try.prog 7 [.p (.i b), .p (.i c), .p (.i m)] (.tup [.agg (stL b c m 0), .one (.p (.i 0))]) := by
  refine pcall_of Try.func7 rfl (fun w0 F S0 M0 => ?_)
  have hn : (!rightB b c m 0) = false := by rw [h]; rfl
  repeat' (first
      | refine rnB ?_
      | refine rnSB ?_
      | refine rnG ?_
      | refine rnU ?_
      | ((fail_if_success (refine rnKn ?_)); refine rnP ?_ ?_ <;> (intro hq; try (have hq' := hq; simp only [hqs] at hq')))
      | refine rkB ?_
      | refine rkSB ?_
      | refine rkF ?_
      | refine rkU ?_
      | ((fail_if_success (refine rkKn ?_)); refine rkP ?_ ?_ <;> (intro hq; try (have hq' := hq; simp only [hqs] at hq')))
      | refine stp ?_
      | refine aws_draws [] mixed (by kernel_rfl) ?_
      | refine ifT ?_
      | refine ifF ?_
      | (refine ifQ ?_ ?_ <;> (try (intro hn)))
      | (refine ifB ?_ ?_ <;> (intro hq; try (have hq' := hq; simp only [hqs] at hq'))))
  exact rc2 rfl rfl rfl rfl rfl rfl finL_p rfl finS_p rfl
theorem new_not (b c m : Int) (h : rightB b c m 0 = false) : PCall Try.prog 7 [.p (.i b), .p (.i c), .p (.i m)] (.tup [.agg (stL 0 0 0 0), .one (.p (.i 1))]) := by
  refine pcall_of Try.func7 rfl (fun w0 F S0 M0 => ?_)
  have hn : (!rightB b c m 0) = true := by rw [h]; rfl
  repeat' (first
      | refine rnB ?_
      | refine rnSB ?_
      | refine rnG ?_
      | refine rnU ?_
      | ((fail_if_success (refine rnKn ?_)); refine rnP ?_ ?_ <;> (intro hq; try (have hq' := hq; simp only [hqs] at hq')))
      | refine rkB ?_
      | refine rkSB ?_
      | refine rkF ?_
      | refine rkU ?_
      | ((fail_if_success (refine rkKn ?_)); refine rkP ?_ ?_ <;> (intro hq; try (have hq' := hq; simp only [hqs] at hq')))
      | refine stp ?_
      | refine aws_draws [] mixed (by kernel_rfl) ?_
      | refine ifT ?_
      | refine ifF ?_
      | (refine ifQ ?_ ?_ <;> (try (intro hn)))
      | (refine ifB ?_ ?_ <;> (intro hq; try (have hq' := hq; simp only [hqs] at hq'))))
  exact rc2 rfl rfl rfl rfl rfl rfl finL_p rfl finS_p rfl
end Go.Proofs.Ytnmajoiafockgaa.Bo
