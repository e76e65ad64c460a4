/- Chapter 25 (draw): what is drawn is told. -/
import Derived.Test.YtbhcdkhejgkhaaaDw
import Derived.Test.YtbhcdkhejgkhaaaDx
namespace Go.Proofs.Ytbhcdkhejgkhaaa.Dr
open Go Go.RowKit Go.Aw
set_option linter.unusedVariables false
set_option maxRecDepth 4000

set_option maxHeartbeats 4000000 in
theorem tells_c (l ds : List Int) (d : Int) (ex ey : Bool) (h : l.length ≤ 9223372036854775807 ∧ ds.length ≤ 9223372036854775807) (hd : u64ok ds) (h0 : 0 ≤ d ∧ d < 18446744073709551616) : PCall Try.prog 6 [ints l ex, u64s ds ey, .p (.k .u64 d)] (.p (.b true)) := by
  refine pcall_of Try.func6 rfl (fun w0 F S0 M0 => ?_)
  have hlen : (dealF [] l ds).length = l.length := (dealF_perm ds [] l).length_eq
  have hseen : (seenF l ds).length ≤ l.length := seenTo_len l.length
  have hmod := mod_in d l.length
  have hp0 : l.length = 0 → decide ((pickR l d).2 = 4) = true ∧ (pickR l d).1 = 0 := fun h => by simp [pickR, h]
  have hp1 : ¬ l.length = 0 → decide ((pickR l d).2 = 0) = true ∧ (pickR l d).1 = l.getD (d % l.length).toNat default := fun h => by simp [pickR, h]
  by_cases h1 : l.length = 0
  · obtain ⟨hp2, hp3⟩ := hp0 h1
    clear hp0 hp1
    repeat' (first
        | refine rn_nil ?_
        | refine rnA ?_
        | refine rnS ?_
        | refine rnG ?_
        | ((fail_if_success (refine rnKn ?_)); refine rnP ?_ ?_ <;> (intro hq; try (have hq' := hq; simp only [hqs] at hq')))
        | refine rk_nil ?_
        | refine rkA ?_
        | refine rkF ?_
        | ((fail_if_success (refine rkKn ?_)); refine rkP ?_ ?_ <;> (intro hq; try (have hq' := hq; simp only [hqs] at hq')))
        | refine aws_seq ?_
        | refine aws_region ?_
        | refine aws_draws [] mixed (by kernel_rfl) ?_
        | refine aws_skip ?_
        | refine aws_exit ?_
        | refine aws_nil ?_
        | refine aws_blk_s ?_
        | refine aws_blk_r ?_
        | refine aws_blk_c ?_
        | refine blk_exit ?_
        | refine blk_normal ?_
        | refine blk_ret ?_
        | refine aws_ret ?_
        | refine ifT ?_
        | refine ifF ?_
        | (refine ifQ ?_ ?_ <;> (try (intro hn)))
        | (refine ifB ?_ ?_ <;> (intro hq; try (have hq' := hq; simp only [hqs] at hq'))))
    all_goals first | exact rt1 rfl rfl finS_p rfl | exact rt1 rfl rfl finS_p (rb (decide_eq_true hp3).symm) | (exfalso; omega)
  · obtain ⟨hp2, hp3⟩ := hp1 h1
    clear hp0 hp1
    repeat' (first
        | refine rn_nil ?_
        | refine rnA ?_
        | refine rnS ?_
        | refine rnG ?_
        | ((fail_if_success (refine rnKn ?_)); refine rnP ?_ ?_ <;> (intro hq; try (have hq' := hq; simp only [hqs] at hq')))
        | refine rk_nil ?_
        | refine rkA ?_
        | refine rkF ?_
        | ((fail_if_success (refine rkKn ?_)); refine rkP ?_ ?_ <;> (intro hq; try (have hq' := hq; simp only [hqs] at hq')))
        | refine aws_seq ?_
        | refine aws_region ?_
        | refine aws_draws [] mixed (by kernel_rfl) ?_
        | refine aws_skip ?_
        | refine aws_exit ?_
        | refine aws_nil ?_
        | refine aws_blk_s ?_
        | refine aws_blk_r ?_
        | refine aws_blk_c ?_
        | refine blk_exit ?_
        | refine blk_normal ?_
        | refine blk_ret ?_
        | refine aws_ret ?_
        | refine ifT ?_
        | refine ifF ?_
        | (refine ifQ ?_ ?_ <;> (try (intro hn)))
        | (refine ifB ?_ ?_ <;> (intro hq; try (have hq' := hq; simp only [hqs] at hq'))))
    all_goals first | exact rt1 rfl rfl finS_p rfl | exact rt1 rfl rfl finS_p (rb (decide_eq_true hp3).symm) | (exfalso; omega)
end Go.Proofs.Ytbhcdkhejgkhaaa.Dr
