/- dots: the dots of two lists: of either, of both, of one alone -/
import Derived.Test.YtgiekdhipbikoaaGreatCd4
import Derived.Test.YtgiekdhipbikoaaGreatCaG
import Derived.Test.YtgiekdhipbikoaaGreatCa4
namespace Go.Proofs.YtgiekdhipbikoaaGreat.Ca
open Go Go.RowKit Go.Aw Go.Aw.Cart
set_option linter.unusedVariables false
set_option linter.unusedSimpArgs false
set_option maxRecDepth 8000
set_option maxHeartbeats 4000000
open D4
theorem filterD_at {p : Dot → Bool} {l : List Dot} {i : Nat} (hi : i < l.length) (hp : p (l.getD i default) = true) : (l.filter p)[((l.take i).filter p).length]? = some (l.getD i default) := by
  have e : l = l.take i ++ l.getD i default :: l.drop (i + 1) := by
    rw [getD_at hi, ← List.drop_eq_getElem_cons hi, List.take_append_drop]
  conv => lhs; arg 1; rw [e]
  rw [List.filter_append, List.getElem?_append_right (Nat.le_refl _), Nat.sub_self, List.filter_cons_of_pos hp]; rfl
theorem filterD_go {p : Dot → Bool} {l : List Dot} {i : Nat} (hi : i < l.length) : ((l.take (i + 1)).filter p).length = ((l.take i).filter p).length + (if p (l.getD i default) = true then 1 else 0) := by
  rw [take_get' hi, List.filter_append, List.length_append]
  congr 1
  by_cases h : p (l.getD i default) = true
  · rw [if_pos h, List.filter_cons_of_pos h]; rfl
  · rw [if_neg h, List.filter_cons_of_neg h]; rfl
def someP (b : List Dot) (has : Bool) (d : Dot) : Bool := decide (d ∈ b) == has
def someF (a b : List Dot) (has : Bool) : List Dot := a.filter (someP b has)
theorem some_len (a b : List Dot) (has : Bool) : (someF a b has).length ≤ a.length := List.length_filter_le _ _
end Go.Proofs.YtgiekdhipbikoaaGreat.Ca
