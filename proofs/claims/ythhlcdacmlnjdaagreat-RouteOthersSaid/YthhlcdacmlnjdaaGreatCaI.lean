/- carts: of an item, off, equal; tallies -/
import Derived.Test.YthhlcdacmlnjdaaGreatCaH
namespace Go.Proofs.YthhlcdacmlnjdaaGreat.Ca
open Go Go.RowKit Go.Aw Go.Aw.Cart
set_option linter.unusedVariables false
set_option linter.unusedSimpArgs false
set_option maxRecDepth 8000
set_option maxHeartbeats 4000000
theorem ofT_in {n : Int} (h : -9223372036854775808 ≤ n ∧ n ≤ 9223372036854775807) : 0 ≤ (ofT n).1 ∧ 0 ≤ (ofT n).2 := by unfold ofT; split <;> (simp only; omega)
def addF (t : Int × Int) (n : Int) : Int × Int := plusF t (ofT n)
def ofF (l : List Ent) (item : Int) : List Ent := l.filter fun e => decide (e.1 = item)
theorem ofF_is (l : List Ent) (item : Int) : ofF l item = (([] : List Ent) ++ l).filter fun e => !decide (e.1 ≠ item) := by
  rw [List.nil_append, ofF]
  congr 1
  funext e
  by_cases h : e.1 = item <;> simp [h]
def isOffF (v : List Int) (l : List Ent) (d : Dot) : Bool := hasF v d && !(l.any fun e => decide (dotE e = d))
theorem vEqV (v w : List Int) (hv : v.length = 8) (hw : w.length = 8) : vEqB [.int .u64 (v.getD 0 default), .int .u64 (v.getD 1 default), .int .u64 (v.getD 2 default), .int .u64 (v.getD 3 default), .int .u64 (v.getD 4 default), .int .u64 (v.getD 5 default), .int .u64 (v.getD 6 default), .int .u64 (v.getD 7 default)] [.int .u64 (w.getD 0 default), .int .u64 (w.getD 1 default), .int .u64 (w.getD 2 default), .int .u64 (w.getD 3 default), .int .u64 (w.getD 4 default), .int .u64 (w.getD 5 default), .int .u64 (w.getD 6 default), .int .u64 (w.getD 7 default)] = decide (v = w) := by
  rw [Bool.eq_iff_iff]
  match v, hv, w, hw with
  | [a0, a1, a2, a3, a4, a5, a6, a7], _, [b0, b1, b2, b3, b4, b5, b6, b7], _ => simp [vEqB, vEq]
def sameF (v w : List Int) (l m : List Ent) : Bool := decide (v = w) && decide (l = m)
end Go.Proofs.YthhlcdacmlnjdaaGreat.Ca
