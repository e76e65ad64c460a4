/- trees: what is above -/
import Derived.Test.YtpamepepibnlfaaTr5
namespace Go.Proofs.Ytpamepepibnlfaa.Tr
open Go Go.RowKit Go.Aw Go.Aw.Sha Go.Aw.Tree Go.Proofs.Ytpamepepibnlfaa.Sh
set_option linter.unusedVariables false
set_option linter.unusedSimpArgs false
set_option maxRecDepth 8000
theorem rup_c (q : Int) : PCall Try.prog 130 [.p (.i q)] (.p (.i (upF q))) := by
  refine pcall_of Try.func130 rfl (fun w0 F S0 M0 => ?_)
  repeat' (first
      | refine rnA ?_
      | refine rnS ?_
      | refine rnG ?_
      | refine rnU ?_
      | ((fail_if_success (refine rnKn ?_)); refine rnP ?_ ?_ <;> (intro hq; try (have hq' := hq; simp only [hqs] at hq')))
      | refine rkA ?_
      | refine rkS ?_
      | refine rkF ?_
      | refine rkU ?_
      | ((fail_if_success (refine rkKn ?_)); refine rkP ?_ ?_ <;> (intro hq; try (have hq' := hq; simp only [hqs] at hq')))
      | refine stp ?_
      | refine aws_draws [] mixed (by kernel_rfl) ?_
      | refine ifT ?_
      | refine ifF ?_
      | (refine ifQ ?_ ?_ <;> (try (intro hn)))
      | (refine ifB ?_ ?_ <;> (intro hq; try (have hq' := hq; simp only [hqs] at hq'))))
  refine aws_loopS (4 :: [2, 3, 4, 5, 6, 7, 8, 9, 10, 11, 12, 13, 14, 15, 16, 17, 18, 19, 20, 21, 22]) [] (fun (p : Nat) => [(3, .p (.i p))]) (fun _ => []) (fun p => p ≤ 5 ∧ ¬ (1 ≤ q ∧ q ≤ 4 * p)) (fun p => 5 - p) 0 ⟨Nat.zero_le _, by omega⟩ (by exact knA) (by exact knA) ?_
  rintro p β γ ⟨hp, hn⟩
  repeat' (first
      | refine rnA ?_
      | refine rnS ?_
      | refine rnG ?_
      | refine rnU ?_
      | ((fail_if_success (refine rnKn ?_)); refine rnP ?_ ?_ <;> (intro hq; try (have hq' := hq; simp only [hqs] at hq')))
      | refine rkA ?_
      | refine rkS ?_
      | refine rkF ?_
      | refine rkU ?_
      | ((fail_if_success (refine rkKn ?_)); refine rkP ?_ ?_ <;> (intro hq; try (have hq' := hq; simp only [hqs] at hq')))
      | refine stp ?_
      | refine aws_draws [] mixed (by kernel_rfl) ?_
      | refine ifT ?_
      | refine ifF ?_
      | (refine ifQ ?_ ?_ <;> (try (intro hn)))
      | (refine ifB ?_ ?_ <;> (intro hq; try (have hq' := hq; simp only [hqs] at hq'))))
  · have hkl : (kidsF p).length = 4 := by rw [kidsF_in (by omega)]; rfl
    refine aws_loopS [2, 5, 12, 13, 14, 15, 16, 17, 18, 19, 20, 21, 22] [] (fun (i : Nat) => [(5, .p (.i i))]) (fun _ => []) (fun i => i ≤ 4 ∧ ¬ (1 ≤ q ∧ q ≤ 4 * p + i)) (fun i => 4 - i) 0 ⟨Nat.zero_le _, by omega⟩ (by exact knA) (by exact knA) ?_
    rintro i β γ ⟨hi, hin⟩
    repeat' (first
        | refine rnA ?_
        | refine rnS ?_
        | refine rnG ?_
        | refine rnU ?_
        | ((fail_if_success (refine rnKn ?_)); refine rnP ?_ ?_ <;> (intro hq; try (have hq' := hq; simp only [hqs] at hq')))
        | refine rkA ?_
        | refine rkS ?_
        | refine rkF ?_
        | refine rkU ?_
        | ((fail_if_success (refine rkKn ?_)); refine rkP ?_ ?_ <;> (intro hq; try (have hq' := hq; simp only [hqs] at hq')))
        | refine stp ?_
        | refine aws_draws [] mixed (by kernel_rfl) ?_
        | refine ifT ?_
        | refine ifF ?_
        | (refine ifQ ?_ ?_ <;> (try (intro hn)))
        | (refine ifB ?_ ?_ <;> (intro hq; try (have hq' := hq; simp only [hqs] at hq'))))
    · have hk := kidsF_get (p := p) (by omega) (i := i) (by omega)
      refine rt1 rfl rfl finS_p (ri ?_)
      simp only [Int.toNat_natCast] at hq'
      unfold upF; rw [if_pos (by omega)]; omega
    · have hk := kidsF_get (p := p) (by omega) (i := i) (by omega)
      simp only [Int.toNat_natCast] at hq'
      exact ⟨i + 1, _, by omega, ⟨by omega, by omega⟩, .refl, by exact frA⟩
    · exact ⟨p + 1, _, by omega, ⟨by omega, by omega⟩, .refl, by exact frA⟩
  · refine rt1 rfl rfl finS_p (ri ?_)
    unfold upF; rw [if_neg (by omega)]
instance {p : Int} : PC Try.prog 130 [.p (.i p)] True (.p (.i (upF p))) := ⟨fun _ => rup_c p⟩

end Go.Proofs.Ytpamepepibnlfaa.Tr
