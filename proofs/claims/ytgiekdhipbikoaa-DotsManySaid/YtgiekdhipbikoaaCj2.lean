/- joins: the entries that stay; entries appended, out of whatever yields them -/
import Derived.Test.YtgiekdhipbikoaaCj1
import Derived.Test.YtgiekdhipbikoaaCa4
namespace Go.Proofs.Ytgiekdhipbikoaa.Ca
open Go Go.RowKit Go.Aw Go.Aw.Cart Go.Aw.Ord Go.Sort
set_option linter.unusedVariables false
set_option linter.unusedSimpArgs false
set_option maxRecDepth 8000
set_option maxHeartbeats 4000000
open J1
def stayP (b : Crt) (both : Bool) (e : Ent) : Bool := (both && decide (e ∈ b.2)) || !hasF b.1 (dotE e)
theorem staysF_is (a b : Crt) (both : Bool) : staysF a b both = a.2.filter (stayP b both) := rfl
theorem filter_at {p : Ent → Bool} {l : List Ent} {i : Nat} (hi : i < l.length) (hp : p (l.getD i default) = true) : (l.filter p)[((l.take i).filter p).length]? = some (l.getD i default) := by
  have e : l = l.take i ++ l.getD i default :: l.drop (i + 1) := by
    rw [getD_at hi, ← List.drop_eq_getElem_cons hi, List.take_append_drop]
  conv => lhs; arg 1; rw [e]
  rw [List.filter_append, List.getElem?_append_right (Nat.le_refl _), Nat.sub_self, List.filter_cons_of_pos hp]; rfl
theorem filter_go {p : Ent → Bool} {l : List Ent} {i : Nat} (hi : i < l.length) : ((l.take (i + 1)).filter p).length = ((l.take i).filter p).length + (if p (l.getD i default) = true then 1 else 0) := by
  rw [take_get' hi, List.filter_append, List.length_append]
  congr 1
  by_cases h : p (l.getD i default) = true
  · rw [if_pos h, List.filter_cons_of_pos h]; rfl
  · rw [if_neg h, List.filter_cons_of_neg h]; rfl
end Go.Proofs.Ytgiekdhipbikoaa.Ca
