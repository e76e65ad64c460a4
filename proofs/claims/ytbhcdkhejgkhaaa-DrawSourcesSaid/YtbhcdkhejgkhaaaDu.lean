/- Chapter 25 (draw): a source. -/
import Derived.Test.YtbhcdkhejgkhaaaDt
namespace Go.Proofs.Ytbhcdkhejgkhaaa.Dr
open Go Go.RowKit Go.Aw
set_option linter.unusedVariables false
set_option linter.unusedSimpArgs false
set_option maxRecDepth 4000

instance {ds : List Int} {ex : Bool} : PC Try.prog 63 [u64s ds ex] (ds.length ≤ 1000000000) (u64s ds false) := ⟨clone_c ds ex⟩
theorem from_c (ds : List Int) (ex : Bool) (h : ds.length ≤ 1000000000) : OCall Try.prog 35 [u64s ds ex] (fun _ => (0, none)) (.o (.ptr 6 0 0)) (memL [(6, (1, some (srcB ds false)))]) := by
  refine ocall_ofF 6 Try.func35 rfl (fun w0 F S0 M0 => ?_)
  repeat' (first
      | refine rnA ?_
      | refine rnS ?_
      | refine rnG ?_
      | refine rnU ?_
      | ((fail_if_success (refine rnKn ?_)); refine rnP ?_ ?_ <;> (intro hq; try (have hq' := hq; simp only [hqs] at hq')))
      | refine rkA ?_
      | refine rkS ?_
      | refine rkF ?_
      | refine rkU ?_
      | ((fail_if_success (refine rkKn ?_)); refine rkP ?_ ?_ <;> (intro hq; try (have hq' := hq; simp only [hqs] at hq')))
      | refine stp ?_
      | refine aws_draws [] mixed (by kernel_rfl) ?_
      | refine ifT ?_
      | refine ifF ?_
      | (refine ifQ ?_ ?_ <;> (try (intro hn)))
      | (refine ifB ?_ ?_ <;> (intro hq; try (have hq' := hq; simp only [hqs] at hq'))))
  all_goals exact RetO.mk (ot1 rfl rfl (.one (.kptr rfl)) rfl) ⟨finM_box rfl finL_p, trivial⟩
instance {c n : Nat} {ds : List Int} {ex : Bool} : OC Try.prog 35 [u64s ds ex] [] [(c, n)] (ds.length ≤ 1000000000) (.o (.ptr c n 0)) [(c, (n + 1, some (srcB ds false)))] := ⟨fun h => (from_c ds ex h).fresh1 c n⟩

/-- what a source's Pick answers, and what is left -/
def spickR (ds l : List Int) : Int × Int := if l.length = 0 then (0, 1) else match ds with | [] => (0, 4) | d :: _ => pickR l d
def spickL (ds l : List Int) : List Int := if l.length = 0 then ds else ds.drop 1
theorem spickR0 {ds l : List Int} (h : l.length = 0) : spickR ds l = (0, 1) := by unfold spickR; rw [if_pos h]
theorem spickL0 {ds l : List Int} (h : l.length = 0) : spickL ds l = ds := by unfold spickL; rw [if_pos h]
theorem spickR1 {ds l : List Int} (h : ¬ l.length = 0) : spickR ds l = match ds with | [] => (0, 4) | d :: _ => pickR l d := by unfold spickR; rw [if_neg h]
theorem spickL1 {ds l : List Int} (h : ¬ l.length = 0) : spickL ds l = ds.drop 1 := by unfold spickL; rw [if_neg h]
theorem spick_c (n : Nat) (ds l : List Int) (ex ey : Bool) (h : ds.length ≤ 1000000000 ∧ l.length ≤ 1000000000) (hd : u64ok ds) : OCall Try.prog 37 [.o (.ptr 1000 n 0), ints l ey] (memL [(1000, (n + 1, some (srcB ds ex)))])
    (.tup [.one (.p (.i (spickR ds l).1)), .one (.p (.i (spickR ds l).2))]) (memL [(1000, (n + 1, some (srcB (spickL ds l) ex)))]) := by
  refine ocall_of1 Try.func37 rfl (fun w0 F S0 M0 => ?_)
  have hd0 : 0 ≤ (nextR ds).1 ∧ (nextR ds).1 < 18446744073709551616 := by
    cases ds with
    | nil => exact ⟨Int.le_refl _, by decide⟩
    | cons d ds => exact hd d (by simp)
  repeat' (first
      | refine rnA ?_
      | refine rnS ?_
      | refine rnG ?_
      | refine rnU ?_
      | ((fail_if_success (refine rnKn ?_)); refine rnP ?_ ?_ <;> (intro hq; try (have hq' := hq; simp only [hqs] at hq')))
      | refine rkA ?_
      | refine rkS ?_
      | refine rkF ?_
      | refine rkU ?_
      | ((fail_if_success (refine rkKn ?_)); refine rkP ?_ ?_ <;> (intro hq; try (have hq' := hq; simp only [hqs] at hq')))
      | refine stp ?_
      | refine aws_draws [] mixed (by kernel_rfl) ?_
      | refine ifT ?_
      | refine ifF ?_
      | (refine ifQ ?_ ?_ <;> (try (intro hn)))
      | (refine ifB ?_ ?_ <;> (intro hq; try (have hq' := hq; simp only [hqs] at hq'))))
  · have hl : l.length = 0 := by omega
    exact RetO.mk (ot2 rfl rfl finS_p rfl finS_p (by rw [spickR0 hl])) ⟨finM_box rfl (by rw [spickL0 hl]; exact finL_p), trivial⟩
  · have hl : ¬ l.length = 0 := by omega
    cases ds with
    | cons d ds => exact absurd rfl hq'
    | nil => exact RetO.mk (ot2 rfl rfl finS_p rfl finS_p (by rw [spickR1 hl]; rfl)) ⟨finM_box rfl (by rw [spickL1 hl]; exact finL_p), trivial⟩
  · have hl : ¬ l.length = 0 := by omega
    cases ds with
    | nil => exact absurd hq' (by decide)
    | cons d ds => exact RetO.mk (ot2 rfl rfl finS_p rfl finS_p (by rw [spickR1 hl]; rfl)) ⟨finM_box rfl (by rw [spickL1 hl]; exact finL_p), trivial⟩
instance {c n : Nat} {ds l : List Int} {ex ey : Bool} : OC Try.prog 37 [.o (.ptr c n 0), ints l ey] [(c, (n + 1, some (srcB ds ex)))] [] ((ds.length ≤ 1000000000 ∧ l.length ≤ 1000000000) ∧ u64ok ds)
    (.tup [.one (.p (.i (spickR ds l).1)), .one (.p (.i (spickR ds l).2))]) [(c, (n + 1, some (srcB (spickL ds l) ex)))] := ⟨fun h => (spick_c n ds l ex ey h.1 h.2).one c⟩
end Go.Proofs.Ytbhcdkhejgkhaaa.Dr
