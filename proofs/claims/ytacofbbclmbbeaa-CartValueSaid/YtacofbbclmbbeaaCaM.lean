/- Carts in plain Lean: how entries and dots stand to each other. Nothing here speaks of a program. -/
import Derived.Test.YtacofbbclmbbeaaKf
namespace Go.Aw.Cart
set_option linter.unusedVariables false
set_option linter.unusedSimpArgs false
def cmpI (x y : Int) : Int := if x < y then -1 else if y < x then 1 else 0
/-- the first one that is not 0 -/
def orF : List Int → Int
  | [] => 0
  | x :: l => if x ≠ 0 then x else orF l
def orFrom (l : List Int) (k : Nat) : Nat → Int
  | 0 => 0
  | n + 1 => if l.getD k default ≠ 0 then l.getD k default else orFrom l (k + 1) n
theorem orFrom_is {l : List Int} : ∀ (n k : Nat), k + n = l.length → orFrom l k n = orF (l.drop k)
  | 0, k, h => by rw [List.drop_eq_nil_of_le (by omega)]; rfl
  | n + 1, k, h => by
    have hk : k < l.length := by omega
    have e : l.drop k = l.getD k default :: l.drop (k + 1) := by
      rw [List.getD_eq_getElem?_getD, List.getElem?_eq_getElem hk]; exact List.drop_eq_getElem_cons hk
    rw [orFrom, e, orF, orFrom_is n (k + 1) (by omega)]
theorem cmpI_lt {x y : Int} : cmpI x y < 0 ↔ x < y := by unfold cmpI; split <;> (try split) <;> omega
theorem cmpI_eq {x y : Int} : cmpI x y = 0 ↔ x = y := by unfold cmpI; split <;> (try split) <;> omega
abbrev Ent := Int × Int × Int × Int
abbrev Dot := Int × Int
def ordE (a b : Ent) : Int := orF [cmpI a.1 b.1, cmpI a.2.1 b.2.1, cmpI a.2.2.1 b.2.2.1, cmpI a.2.2.2 b.2.2.2]
def ordD (a b : Dot) : Int := orF [cmpI a.1 b.1, cmpI a.2 b.2]
def ltE (a b : Ent) : Prop := a.1 < b.1 ∨ a.1 = b.1 ∧ (a.2.1 < b.2.1 ∨ a.2.1 = b.2.1 ∧ (a.2.2.1 < b.2.2.1 ∨ a.2.2.1 = b.2.2.1 ∧ a.2.2.2 < b.2.2.2))
def ltD (a b : Dot) : Prop := a.1 < b.1 ∨ a.1 = b.1 ∧ a.2 < b.2
theorem orF_cons {x : Int} {l : List Int} : orF (x :: l) < 0 ↔ x < 0 ∨ x = 0 ∧ orF l < 0 := by
  rw [orF]; split <;> omega
theorem ordE_lt {a b : Ent} : ordE a b < 0 ↔ ltE a b := by
  unfold ordE ltE
  rw [orF_cons, orF_cons, orF_cons, orF_cons, cmpI_lt, cmpI_lt, cmpI_lt, cmpI_lt, cmpI_eq, cmpI_eq, cmpI_eq, cmpI_eq]
  simp only [orF]; omega
theorem ordD_lt {a b : Dot} : ordD a b < 0 ↔ ltD a b := by
  unfold ordD ltD
  rw [orF_cons, orF_cons, cmpI_lt, cmpI_lt, cmpI_eq, cmpI_eq]
  simp only [orF]; omega
theorem cmpI_in {x y : Int} : -1 ≤ cmpI x y ∧ cmpI x y ≤ 1 := by unfold cmpI; split <;> (try split) <;> omega
/-- how dots stand to each other, as the program tells it -/
def cmpD (a b : Dot) : Int := if ordD a b < 0 then -1 else if ordD b a < 0 then 1 else 0
theorem cmpD_lt {a b : Dot} : cmpD a b < 0 ↔ ltD a b := by
  unfold cmpD; rw [← ordD_lt]; split <;> (try split) <;> omega
end Go.Aw.Cart
