/- backoffs, the laws: fixed calls -/
import Derived.Test.YtnmajoiafockgaaBo3
namespace Go.Proofs.Ytnmajoiafockgaa.Bo
open Go Go.RowKit Go.Aw Go.Aw.Bo
set_option linter.unusedVariables false
set_option linter.unusedSimpArgs false
set_option maxRecDepth 8000
set_option maxHeartbeats 4000000
theorem alive_w : PCall Try.prog 9 [] (.p (.b true)) := by
  refine pcall_of Try.func9 rfl (fun w0 F S0 M0 => ?_)
  have r : ∀ t : Int, 0 ≤ t → t ≤ 3 → rightB 2 20 3 t = true := fun t h1 h2 => right_mk (by omega)
  obtain ⟨L, hL⟩ : ∃ L, L = gapsL 2 20 0 6 := ⟨_, rfl⟩
  have g0 := gaps_w 2 20 3 0 6 (r 0 (by decide) (by decide)) (by decide) (by decide)
  have w0' := whole_l 2 20 3 0 6 (gapsL 2 20 0 6) (by rw [gapsL_len]; decide) (gapsL_in (by decide) (by decide) (by decide)) g0
  have hs : sumTo (gapsL 2 20 0 6) (gapsL 2 20 0 6).length = 70 := by decide
  rw [hs] at w0'
  haveI i1 : PC Try.prog 7 [.p (.i 2), .p (.i 20), .p (.i 3)] True (.tup [.agg (stL 2 20 3 0), .one (.p (.i 0))]) := ⟨fun _ => new_w 2 20 3 (r 0 (by decide) (by decide))⟩
  haveI i2 : PC Try.prog 7 [.p (.i 0), .p (.i 20), .p (.i 3)] True (.tup [.agg (stL 0 0 0 0), .one (.p (.i 1))]) := ⟨fun _ => new_not 0 20 3 (by decide)⟩
  haveI i3 : PC Try.prog 15 [stV 2 20 3 0, .p (.i 6)] True (ints L false) := ⟨fun _ => by rw [hL]; exact g0⟩
  haveI i4 : PC Try.prog 11 [stV 2 20 3 0] True (stV 2 20 3 1) := ⟨fun _ => next_w 2 20 3 0 (r 0 (by decide) (by decide))⟩
  haveI i5 : PC Try.prog 11 [stV 2 20 3 1] True (stV 2 20 3 2) := ⟨fun _ => next_w 2 20 3 1 (r 1 (by decide) (by decide))⟩
  haveI i6 : PC Try.prog 11 [stV 2 20 3 2] True (stV 2 20 3 3) := ⟨fun _ => next_w 2 20 3 2 (r 2 (by decide) (by decide))⟩
  haveI i7 : PC Try.prog 16 [stV 2 20 3 0, .p (.i 6)] True (.p (.i 70)) := ⟨fun _ => w0'⟩
  haveI i8 : PC Try.prog 10 [stV 2 20 3 2] True (.p (.i 8)) := ⟨fun _ => gap_w 2 20 3 2 (r 2 (by decide) (by decide))⟩
  haveI i9 : PC Try.prog 13 [stV 2 20 3 2] True (.p (.b false)) := ⟨fun _ => spent_w 2 20 3 2 (r 2 (by decide) (by decide))⟩
  haveI i10 : PC Try.prog 13 [stV 2 20 3 3] True (.p (.b true)) := ⟨fun _ => spent_w 2 20 3 3 (r 3 (by decide) (by decide))⟩
  haveI i11 : PC Try.prog 12 [stV 2 20 3 2] True (stV 2 20 3 0) := ⟨fun _ => reset_w 2 20 3 2 (r 2 (by decide) (by decide))⟩
  have l6 : L.length = 6 := by rw [hL]; rfl
  have f0 : decide ((L.length : Int) ≠ 6) = false := by rw [l6]; rfl
  have f1 : decide (L.getD (Int.toNat 0) default = 2) = true := by rw [hL]; decide
  have f2 : decide (L.getD (Int.toNat 3) default = 16) = true := by rw [hL]; decide
  have f3 : decide (L.getD (Int.toNat 5) default = 20) = true := by rw [hL]; decide
  clear hL g0 w0' hs r
  repeat' (first
      | refine rnB ?_
      | refine rnSB ?_
      | refine rnG ?_
      | refine rnU ?_
      | ((fail_if_success (refine rnKn ?_)); refine rnP ?_ ?_ <;> (intro hq; try (have hq' := hq; simp only [hqs] at hq')))
      | refine rkB ?_
      | refine rkSB ?_
      | refine rkF ?_
      | refine rkU ?_
      | ((fail_if_success (refine rkKn ?_)); refine rkP ?_ ?_ <;> (intro hq; try (have hq' := hq; simp only [hqs] at hq')))
      | refine stp ?_
      | refine aws_draws [] mixed (by kernel_rfl) ?_
      | refine ifT ?_
      | refine ifF ?_
      | (refine ifQ ?_ ?_ <;> (try (intro hn)))
      | (refine ifB ?_ ?_ <;> (intro hq; try (have hq' := hq; simp only [hqs] at hq'))))
  exact rt1 rfl rfl finS_p rfl
instance : PC Try.prog 9 [] True (.p (.b true)) := ⟨fun _ => alive_w⟩
end Go.Proofs.Ytnmajoiafockgaa.Bo
