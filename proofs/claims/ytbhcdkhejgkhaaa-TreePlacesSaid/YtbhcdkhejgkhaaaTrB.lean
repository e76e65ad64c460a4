/- trees: with another text -/
import Derived.Test.YtbhcdkhejgkhaaaTr9
import Derived.Test.YtbhcdkhejgkhaaaTr1
import Derived.Test.YtbhcdkhejgkhaaaKf
namespace Go.Proofs.Ytbhcdkhejgkhaaa.Tr
open Go Go.RowKit Go.Aw Go.Aw.Sha Go.Aw.Tree Go.Proofs.Ytbhcdkhejgkhaaa.Sh
set_option linter.unusedVariables false
set_option linter.unusedSimpArgs false
set_option maxRecDepth 8000
attribute [local irreducible] sum
set_option maxHeartbeats 4000000

theorem with_c (T : List Nat) (n : Int) (b : List Nat) (ex : Bool) (h : T.length = 672 ∧ b.length ≤ 400000000) : PCall Try.prog 53 [tv T, .p (.i n), bytesN b ex] (tv (withF T n b)) := by
  refine pcall_of Try.func53 rfl (fun w0 F S0 M0 => ?_)
  obtain ⟨hT, hb⟩ := h
  have hdl : (leafD b).length = 32 := leafD_len _
  by_cases hn : 0 ≤ n ∧ n ≤ 15
  · have hd1 : decide (n < 0) = false := decide_eq_false (by omega)
    have hd2 : decide (16 ≤ n) = false := decide_eq_false (by omega)
    have hsl : (setRow 32 T (5 + n).toNat (leafD b)).length = 672 := by rw [setRow_len (by omega) hdl]; exact hT
    have hu : upF (5 + n) = (4 + n) / 4 := by unfold upF; rw [if_pos (by omega)]; omega
    have hu4 : upF (5 + n) ≤ 4 := by rw [hu]; omega
    have e : withF T n b = upsF (setRow 32 T (5 + n).toNat (leafD b)) (upF (5 + n)) := by
      unfold withF upsF; rw [hu, if_pos (by omega), if_pos (by omega)]
    have hwl := withF_len (T := T) (n := n) (b := b) hT
    rw [e] at hwl ⊢
    repeat' (first
        | refine rnB ?_
        | refine rnSB ?_
        | refine rnG ?_
        | refine rnU ?_
        | ((fail_if_success (refine rnKn ?_)); refine rnP ?_ ?_ <;> (intro hq; try (have hq' := hq; simp only [hqs] at hq')))
        | refine rkB ?_
        | refine rkSB ?_
        | refine rkF ?_
        | refine rkU ?_
        | ((fail_if_success (refine rkKn ?_)); refine rkP ?_ ?_ <;> (intro hq; try (have hq' := hq; simp only [hqs] at hq')))
        | refine stp ?_
        | refine ifT ?_
        | refine ifF ?_
        | (refine ifQ ?_ ?_ <;> (try (intro hn)))
        | (refine ifB ?_ ?_ <;> (intro hq; try (have hq' := hq; simp only [hqs] at hq'))))
    refine aws_draws [(4, 6)] mixed (by kernel_rfl) ?_
    repeat' (first
        | refine rk_nil ?_
        | refine rkB ?_
        | refine rkSB ?_
        | refine rkF ?_
        | refine rkU ?_
        | ((fail_if_success (refine rkKn ?_)); refine rkP ?_ ?_ <;> (intro hq; try (have hq' := hq; simp only [hqs] at hq'))))
    repeat' (first
        | refine rnB ?_
        | refine rnSB ?_
        | refine rnG ?_
        | refine rnU ?_
        | ((fail_if_success (refine rnKn ?_)); refine rnP ?_ ?_ <;> (intro hq; try (have hq' := hq; simp only [hqs] at hq')))
        | refine rkB ?_
        | refine rkSB ?_
        | refine rkF ?_
        | refine rkU ?_
        | ((fail_if_success (refine rkKn ?_)); refine rkP ?_ ?_ <;> (intro hq; try (have hq' := hq; simp only [hqs] at hq')))
        | refine stp ?_
        | refine ifT ?_
        | refine ifF ?_
        | (refine ifQ ?_ ?_ <;> (try (intro hn)))
        | (refine ifB ?_ ?_ <;> (intro hq; try (have hq' := hq; simp only [hqs] at hq'))))
    exact rc1 rfl rfl rfl rfl rfl (by simpa using hwl) finL_p rfl
  · have e : withF T n b = T := by unfold withF; rw [if_neg hn]
    rw [e]
    repeat' (first
        | refine rnB ?_
        | refine rnSB ?_
        | refine rnG ?_
        | refine rnU ?_
        | ((fail_if_success (refine rnKn ?_)); refine rnP ?_ ?_ <;> (intro hq; try (have hq' := hq; simp only [hqs] at hq')))
        | refine rkB ?_
        | refine rkSB ?_
        | refine rkF ?_
        | refine rkU ?_
        | ((fail_if_success (refine rkKn ?_)); refine rkP ?_ ?_ <;> (intro hq; try (have hq' := hq; simp only [hqs] at hq')))
        | refine stp ?_
        | refine ifT ?_
        | refine ifF ?_
        | (refine ifQ ?_ ?_ <;> (try (intro hn)))
        | (refine ifB ?_ ?_ <;> (intro hq; try (have hq' := hq; simp only [hqs] at hq'))))
    all_goals first
      | exact rc1 rfl rfl rfl rfl rfl (by simpa using hT) finL_p rfl
      | (exfalso; simp only [hqs] at *; omega)
instance {T : List Nat} {n : Int} {b : List Nat} {ex : Bool} : PC Try.prog 53 [tv T, .p (.i n), bytesN b ex] (T.length = 672 ∧ b.length ≤ 400000000) (tv (withF T n b)) := ⟨with_c T n b ex⟩
end Go.Proofs.Ytbhcdkhejgkhaaa.Tr
