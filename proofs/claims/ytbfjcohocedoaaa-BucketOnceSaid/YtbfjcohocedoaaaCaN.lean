/- carts: what they are worth -/
import Derived.Test.YtbfjcohocedoaaaCaJ
namespace Go.Proofs.Ytbfjcohocedoaaa.Ca
open Go Go.RowKit Go.Aw Go.Aw.Cart
set_option linter.unusedVariables false
set_option linter.unusedSimpArgs false
set_option maxRecDepth 8000
set_option maxHeartbeats 4000000
open J
/-- a line of each item: of the first ones of entries in order -/
def valTo (l : List Ent) : Nat → List Dot
  | 0 => []
  | i + 1 => if (valTo l i) ≠ [] ∧ ((valTo l i).getD ((valTo l i).length - 1) default).1 = ((sortE l).getD i default).1 then valTo l i else valTo l i ++ [(((sortE l).getD i default).1, getQ l ((sortE l).getD i default).1)]
theorem valTo_len (l : List Ent) : ∀ i, (valTo l i).length ≤ i
  | 0 => Nat.le_refl _
  | i + 1 => by
    have := valTo_len l i
    rw [valTo]
    split
    · omega
    · rw [List.length_append, List.length_cons, List.length_nil]; omega
def valueF (l : List Ent) : List Dot := valTo l (sortE l).length
end Go.Proofs.Ytbfjcohocedoaaa.Ca
