/- carts: of an item, off, equal; tallies -/
import Derived.Test.YtbfjcohocedoaaaCaH
namespace Go.Proofs.Ytbfjcohocedoaaa.Ca
open Go Go.RowKit Go.Aw Go.Aw.Cart
set_option linter.unusedVariables false
set_option linter.unusedSimpArgs false
set_option maxRecDepth 8000
set_option maxHeartbeats 4000000
theorem ofT_in {n : Int} (h : -9223372036854775808 ≤ n ∧ n ≤ 9223372036854775807) : 0 ≤ (ofT n).1 ∧ 0 ≤ (ofT n).2 := by unfold ofT; split <;> (simp only; omega)
def addF (t : Int × Int) (n : Int) : Int × Int := plusF t (ofT n)
def ofF (l : List Ent) (item : Int) : List Ent := l.filter fun e => decide (e.1 = item)
theorem ofF_is (l : List Ent) (item : Int) : ofF l item = (([] : List Ent) ++ l).filter fun e => !decide (e.1 ≠ item) := by
  rw [List.nil_append, ofF]
  congr 1
  funext e
  by_cases h : e.1 = item <;> simp [h]
def isOffF (v : List Int) (l : List Ent) (d : Dot) : Bool := hasF v d && !(l.any fun e => decide (dotE e = d))
theorem vEqV (v w : List Int) (hv : v.length = 8) (hw : w.length = 8) : vEqB [.int .u64 (v.getD 0 default), .int .u64 (v.getD 1 default), .int .u64 (v.getD 2 default), .int .u64 (v.getD 3 default), .int .u64 (v.getD 4 default), .int .u64 (v.getD 5 default), .int .u64 (v.getD 6 default), .int .u64 (v.getD 7 default)] [.int .u64 (w.getD 0 default), .int .u64 (w.getD 1 default), .int .u64 (w.getD 2 default), .int .u64 (w.getD 3 default), .int .u64 (w.getD 4 default), .int .u64 (w.getD 5 default), .int .u64 (w.getD 6 default), .int .u64 (w.getD 7 default)] = decide (v = w) := by
  rw [Bool.eq_iff_iff]
  match v, hv, w, hw with
  | [a0, a1, a2, a3, a4, a5, a6, a7], _, [b0, b1, b2, b3, b4, b5, b6, b7], _ => simp [vEqB, vEq]
def sameF (v w : List Int) (l m : List Ent) : Bool := decide (v = w) && decide (l = m)
theorem same_w (v w : List Int) (l m : List Ent) (ex ey : Bool) (hv : v.length = 8) (hw : w.length = 8) (h : l.length ≤ 1000000000) : PCall Try.prog 14 [cV v l ex, cV w m ey] (.p (.b (sameF v w l m))) := by
  refine pcall_of Try.func14 rfl (fun w0 F S0 M0 => ?_)
  unfold sameF
  have e := vEqV v w hv hw
  cases hh : decide (v = w) with
  | true =>
    rw [hh] at e
    repeat' (first
        | refine rnY ?_
        | refine rnSQ ?_
        | refine rnG ?_
        | refine rnU ?_
        | ((fail_if_success (refine rnKn ?_)); refine rnP ?_ ?_ <;> (intro hq; try (have hq' := hq; simp only [hqs] at hq')))
        | refine rkY ?_
        | refine rkSQ ?_
        | refine rkF ?_
        | refine rkU ?_
        | ((fail_if_success (refine rkKn ?_)); refine rkP ?_ ?_ <;> (intro hq; try (have hq' := hq; simp only [hqs] at hq')))
        | refine stp ?_
        | refine aws_draws [] mixed (by kernel_rfl) ?_
        | refine ifT ?_
        | refine ifF ?_
        | (refine ifQ ?_ ?_ <;> (try (intro hn)))
        | (refine ifB ?_ ?_ <;> (intro hq; try (have hq' := hq; simp only [hqs] at hq'))))
    exact rt1 rfl rfl finS_p rfl
  | false =>
    rw [hh] at e
    repeat' (first
        | refine rnY ?_
        | refine rnSQ ?_
        | refine rnG ?_
        | refine rnU ?_
        | ((fail_if_success (refine rnKn ?_)); refine rnP ?_ ?_ <;> (intro hq; try (have hq' := hq; simp only [hqs] at hq')))
        | refine rkY ?_
        | refine rkSQ ?_
        | refine rkF ?_
        | refine rkU ?_
        | ((fail_if_success (refine rkKn ?_)); refine rkP ?_ ?_ <;> (intro hq; try (have hq' := hq; simp only [hqs] at hq')))
        | refine stp ?_
        | refine aws_draws [] mixed (by kernel_rfl) ?_
        | refine ifT ?_
        | refine ifF ?_
        | (refine ifQ ?_ ?_ <;> (try (intro hn)))
        | (refine ifB ?_ ?_ <;> (intro hq; try (have hq' := hq; simp only [hqs] at hq'))))
    exact rt1 rfl rfl finS_p rfl
instance {v w : List Int} {l m : List Ent} {ex ey : Bool} : PC Try.prog 14 [cV v l ex, cV w m ey] (v.length = 8 ∧ w.length = 8 ∧ l.length ≤ 1000000000) (.p (.b (sameF v w l m))) := ⟨fun h => same_w v w l m ex ey h.1 h.2.1 h.2.2⟩
end Go.Proofs.Ytbfjcohocedoaaa.Ca
