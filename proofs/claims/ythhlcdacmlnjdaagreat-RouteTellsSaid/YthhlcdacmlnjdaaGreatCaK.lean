/- carts: which may be -/
import Derived.Test.YthhlcdacmlnjdaaGreatCaJ
namespace Go.Proofs.YthhlcdacmlnjdaaGreat.Ca
open Go Go.RowKit Go.Aw Go.Aw.Cart
set_option linter.unusedVariables false
set_option linter.unusedSimpArgs false
set_option maxRecDepth 8000
set_option maxHeartbeats 4000000
open J
def rowOk (v : List Int) (l : List Ent) (i : Nat) : Bool := entF (l.getD i default) && hasF v (dotE (l.getD i default)) && (decide (i = 0) || decide (ordE (l.getD (i - 1) default) (l.getD i default) < 0))
def okTo (v : List Int) (l : List Ent) (k : Nat) : Nat → Bool
  | 0 => true
  | n + 1 => rowOk v l k && okTo v l (k + 1) n
/-- which carts may be -/
def rightF (v : List Int) (l : List Ent) : Bool := decide (l.length ≤ 400) && (okTo v l 0 l.length && decide ((liveF l).length = l.length))
end Go.Proofs.YthhlcdacmlnjdaaGreat.Ca
