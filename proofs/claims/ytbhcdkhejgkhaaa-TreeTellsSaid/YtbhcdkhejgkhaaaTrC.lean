/- trees: is a tree right? -/
import Derived.Test.YtbhcdkhejgkhaaaTr8
import Derived.Test.YtbhcdkhejgkhaaaKf
namespace Go.Proofs.Ytbhcdkhejgkhaaa.Tr
open Go Go.RowKit Go.Aw Go.Aw.Sha Go.Aw.Tree Go.Proofs.Ytbhcdkhejgkhaaa.Sh
set_option linter.unusedVariables false
set_option linter.unusedSimpArgs false
set_option maxRecDepth 8000
attribute [local irreducible] sum
set_option maxHeartbeats 4000000

theorem right_c (T : List Nat) (hT : T.length = 672) : PCall Try.prog 58 [tv T] (.p (.b (rightF T))) := by
  refine pcall_of Try.func58 rfl (fun w0 F S0 M0 => ?_)
  repeat' (first
      | refine rnB ?_
      | refine rnSB ?_
      | refine rnG ?_
      | refine rnU ?_
      | ((fail_if_success (refine rnKn ?_)); refine rnP ?_ ?_ <;> (intro hq; try (have hq' := hq; simp only [hqs] at hq')))
      | refine rkB ?_
      | refine rkSB ?_
      | refine rkF ?_
      | refine rkU ?_
      | ((fail_if_success (refine rkKn ?_)); refine rkP ?_ ?_ <;> (intro hq; try (have hq' := hq; simp only [hqs] at hq')))
      | refine stp ?_
      | refine ifT ?_
      | refine ifF ?_
      | (refine ifQ ?_ ?_ <;> (try (intro hn)))
      | (refine ifB ?_ ?_ <;> (intro hq; try (have hq' := hq; simp only [hqs] at hq'))))
  refine aws_loopS [2, 3, 4, 5, 6, 7, 8, 9, 10, 11, 12, 13, 14, 15, 16] [] (fun (p : Nat) => [(4, .p (.i p))]) (fun _ => []) (fun p => p ≤ 5 ∧ okTo T p) (fun p => 5 - p) 0 ⟨Nat.zero_le _, fun p hp => absurd hp (Nat.not_lt_zero _)⟩ (by exact knA) (by exact knA) ?_
  rintro p β γ ⟨hp, hok⟩
  have hbl := belowF_len (T := T) (p := p) hT
  have hsl : (sum (belowF T p)).length = 32 := sumLen _
  by_cases hp5 : p < 5
  · have hd : decide ((p : Int) < 5) = true := decide_eq_true (by omega)
    have hrl : (rowOf 32 T (p : Int).toNat).length = 32 := row_len hT (by omega)
    repeat' (first
        | refine rnB ?_
        | refine rnSB ?_
        | refine rnG ?_
        | refine rnU ?_
        | ((fail_if_success (refine rnKn ?_)); refine rnP ?_ ?_ <;> (intro hq; try (have hq' := hq; simp only [hqs] at hq')))
        | refine rkB ?_
        | refine rkSB ?_
        | refine rkF ?_
        | refine rkU ?_
        | ((fail_if_success (refine rkKn ?_)); refine rkP ?_ ?_ <;> (intro hq; try (have hq' := hq; simp only [hqs] at hq')))
        | refine stp ?_
        | refine aws_draws [] mixed (by kernel_rfl) ?_
        | refine ifT ?_
        | refine ifF ?_
        | (refine ifQ ?_ ?_ <;> (try (intro hn)))
        | (refine ifB ?_ ?_ <;> (intro hq; try (have hq' := hq; simp only [hqs] at hq'))))
    · refine rt1 rfl rfl finS_p (rb ?_)
      have : ¬ okTo T 5 := fun h => by
        have h1 := h p hp5
        rw [Int.toNat_natCast] at hq'
        exact hq' h1
      exact decide_eq_false this
    · refine ⟨p + 1, _, by omega, ⟨by omega, okTo_succ.2 ⟨hok, ?_⟩⟩, .refl, by exact frA⟩
      rw [Int.toNat_natCast] at hq'
      exact hq'
  · have hd : decide ((p : Int) < 5) = false := decide_eq_false (by omega)
    repeat' (first
        | refine rnB ?_
        | refine rnSB ?_
        | refine rnG ?_
        | refine rnU ?_
        | ((fail_if_success (refine rnKn ?_)); refine rnP ?_ ?_ <;> (intro hq; try (have hq' := hq; simp only [hqs] at hq')))
        | refine rkB ?_
        | refine rkSB ?_
        | refine rkF ?_
        | refine rkU ?_
        | ((fail_if_success (refine rkKn ?_)); refine rkP ?_ ?_ <;> (intro hq; try (have hq' := hq; simp only [hqs] at hq')))
        | refine stp ?_
        | refine ifT ?_
        | refine ifF ?_
        | (refine ifQ ?_ ?_ <;> (try (intro hn)))
        | (refine ifB ?_ ?_ <;> (intro hq; try (have hq' := hq; simp only [hqs] at hq'))))
    refine rt1 rfl rfl finS_p (rb ?_)
    obtain rfl : p = 5 := by omega
    exact decide_eq_true hok
instance {T : List Nat} : PC Try.prog 58 [tv T] (T.length = 672) (.p (.b (rightF T))) := ⟨right_c T⟩
end Go.Proofs.Ytbhcdkhejgkhaaa.Tr
