/- Carts in plain Lean: how entries and dots stand to each other. Nothing here speaks of a program. // Carts in plain Lean: runs of equal things, sorted lists, insertion. Nothing here speaks of a program. // Carts in plain Lean: insertion, one by one, comes to the sorted list. Nothing here speaks of a program. -/
import Derived.Test.YtbfjcohocedoaaaKf
namespace Go.Aw.Cart
set_option linter.unusedVariables false
set_option linter.unusedSimpArgs false
def cmpI (x y : Int) : Int := if x < y then -1 else if y < x then 1 else 0
/-- the first one that is not 0 -/
def orF : List Int → Int
  | [] => 0
  | x :: l => if x ≠ 0 then x else orF l
def orFrom (l : List Int) (k : Nat) : Nat → Int
  | 0 => 0
  | n + 1 => if l.getD k default ≠ 0 then l.getD k default else orFrom l (k + 1) n
theorem orFrom_is {l : List Int} : ∀ (n k : Nat), k + n = l.length → orFrom l k n = orF (l.drop k)
  | 0, k, h => by rw [List.drop_eq_nil_of_le (by omega)]; rfl
  | n + 1, k, h => by
    have hk : k < l.length := by omega
    have e : l.drop k = l.getD k default :: l.drop (k + 1) := by
      rw [List.getD_eq_getElem?_getD, List.getElem?_eq_getElem hk]; exact List.drop_eq_getElem_cons hk
    rw [orFrom, e, orF, orFrom_is n (k + 1) (by omega)]
theorem cmpI_lt {x y : Int} : cmpI x y < 0 ↔ x < y := by unfold cmpI; split <;> (try split) <;> omega
theorem cmpI_eq {x y : Int} : cmpI x y = 0 ↔ x = y := by unfold cmpI; split <;> (try split) <;> omega
abbrev Ent := Int × Int × Int × Int
abbrev Dot := Int × Int
def ordE (a b : Ent) : Int := orF [cmpI a.1 b.1, cmpI a.2.1 b.2.1, cmpI a.2.2.1 b.2.2.1, cmpI a.2.2.2 b.2.2.2]
def ordD (a b : Dot) : Int := orF [cmpI a.1 b.1, cmpI a.2 b.2]
def ltE (a b : Ent) : Prop := a.1 < b.1 ∨ a.1 = b.1 ∧ (a.2.1 < b.2.1 ∨ a.2.1 = b.2.1 ∧ (a.2.2.1 < b.2.2.1 ∨ a.2.2.1 = b.2.2.1 ∧ a.2.2.2 < b.2.2.2))
def ltD (a b : Dot) : Prop := a.1 < b.1 ∨ a.1 = b.1 ∧ a.2 < b.2
theorem orF_cons {x : Int} {l : List Int} : orF (x :: l) < 0 ↔ x < 0 ∨ x = 0 ∧ orF l < 0 := by
  rw [orF]; split <;> omega
theorem ordE_lt {a b : Ent} : ordE a b < 0 ↔ ltE a b := by
  unfold ordE ltE
  rw [orF_cons, orF_cons, orF_cons, orF_cons, cmpI_lt, cmpI_lt, cmpI_lt, cmpI_lt, cmpI_eq, cmpI_eq, cmpI_eq, cmpI_eq]
  simp only [orF]; omega
theorem ordD_lt {a b : Dot} : ordD a b < 0 ↔ ltD a b := by
  unfold ordD ltD
  rw [orF_cons, orF_cons, cmpI_lt, cmpI_lt, cmpI_eq, cmpI_eq]
  simp only [orF]; omega
theorem cmpI_in {x y : Int} : -1 ≤ cmpI x y ∧ cmpI x y ≤ 1 := by unfold cmpI; split <;> (try split) <;> omega
/-- how dots stand to each other, as the program tells it -/
def cmpD (a b : Dot) : Int := if ordD a b < 0 then -1 else if ordD b a < 0 then 1 else 0
theorem cmpD_lt {a b : Dot} : cmpD a b < 0 ↔ ltD a b := by
  unfold cmpD; rw [← ordD_lt]; split <;> (try split) <;> omega
end Go.Aw.Cart
namespace Go.Aw.Cart
set_option linter.unusedVariables false
set_option linter.unusedSimpArgs false
section comp
variable {α : Type} [DecidableEq α]
def compG (x : α) : List α → List α
  | [] => []
  | y :: l => if y = x then compG x l else y :: compG y l
/-- the first of each run -/
def comp : List α → List α
  | [] => []
  | x :: l => x :: compG x l
theorem compG_snoc (y : α) : ∀ (l : List α) (x : α), compG x (l ++ [y]) = compG x l ++ (if y = (x :: l).getLast (by simp) then [] else [y])
  | [], x => by by_cases e : y = x <;> simp [compG, e]
  | z :: l, x => by
    have e : (x :: z :: l).getLast (by simp) = (z :: l).getLast (by simp) := List.getLast_cons _
    simp only [List.cons_append, compG, e]
    by_cases h : z = x
    · subst h
      rw [if_pos rfl, if_pos rfl, compG_snoc y l z]
    · rw [if_neg h, if_neg h, compG_snoc y l z, List.cons_append]
theorem comp_snoc (l : List α) (y : α) (h : l ≠ []) : comp (l ++ [y]) = comp l ++ (if y = l.getLast h then [] else [y]) := by
  cases l with
  | nil => exact absurd rfl h
  | cons x l => simp only [List.cons_append, comp, compG_snoc]
theorem comp_take [Inhabited α] {l : List α} {k : Nat} (h : k < l.length) (h1 : 1 ≤ k) : comp (l.take (k + 1)) = comp (l.take k) ++ (if l.getD k default = l.getD (k - 1) default then [] else [l.getD k default]) := by
  rw [List.take_succ_eq_append_getElem h, comp_snoc _ _ (by
    intro e
    have := congrArg List.length e
    rw [List.length_take, List.length_nil] at this; omega)]
  have e1 : l.getD k default = l[k] := by rw [List.getD_eq_getElem?_getD, List.getElem?_eq_getElem h]; rfl
  have e2 : ∀ hne, (l.take k).getLast hne = l.getD (k - 1) default := fun hne => by
    rw [List.getLast_eq_getElem, List.getD_eq_getElem?_getD, List.getElem?_eq_getElem (by omega : k - 1 < l.length), List.getElem_take]
    simp only [List.length_take, Option.getD_some]
    congr 1; omega
  rw [e1, e2]
theorem comp_one (l : List α) : comp (l.take 1) = l.take 1 := by
  cases l with
  | nil => rfl
  | cons x l => rfl
theorem compG_len (l : List α) : ∀ x, (compG x l).length ≤ l.length := by
  induction l with
  | nil => intro x; exact Nat.le_refl _
  | cons y l ih =>
    intro x
    rw [compG]
    split
    · exact Nat.le_succ_of_le (ih x)
    · exact Nat.succ_le_succ (ih y)
theorem comp_len (l : List α) : (comp l).length ≤ l.length := by
  cases l with
  | nil => exact Nat.le_refl _
  | cons x l => exact Nat.succ_le_succ (compG_len l x)
theorem mem_compG {y : α} : ∀ {l : List α} {x : α}, y ∈ compG x l → y ∈ l
  | [], x, h => by cases h
  | z :: l, x, h => by
    rw [compG] at h
    split at h
    · exact List.mem_cons_of_mem _ (mem_compG h)
    · rcases List.mem_cons.1 h with rfl | h
      · exact List.mem_cons_self
      · exact List.mem_cons_of_mem _ (mem_compG h)
theorem compG_mem {y : α} : ∀ {l : List α} {x : α}, y ∈ l → y = x ∨ y ∈ compG x l
  | z :: l, x, h => by
    rw [compG]
    rcases List.mem_cons.1 h with rfl | h
    · by_cases e : y = x
      · exact .inl e
      · rw [if_neg e]; exact .inr List.mem_cons_self
    · by_cases e : z = x
      · rw [if_pos e]; exact compG_mem h
      · rw [if_neg e]
        rcases compG_mem (x := z) h with rfl | h
        · exact .inr List.mem_cons_self
        · exact .inr (List.mem_cons_of_mem _ h)
theorem mem_comp {y : α} {l : List α} : y ∈ comp l ↔ y ∈ l := by
  cases l with
  | nil => rfl
  | cons x l =>
    rw [comp]
    constructor
    · intro h
      rcases List.mem_cons.1 h with rfl | h
      · exact List.mem_cons_self
      · exact List.mem_cons_of_mem _ (mem_compG h)
    · intro h
      rcases List.mem_cons.1 h with rfl | h
      · exact List.mem_cons_self
      · rcases compG_mem (x := x) h with rfl | h
        · exact List.mem_cons_self
        · exact List.mem_cons_of_mem _ h
/-- of what does not fall the first ones of runs rise -/
theorem compG_up {lt : α → α → Prop} (ht : ∀ x y, ¬ lt y x → x = y ∨ lt x y) : ∀ {l : List α} {x : α}, (x :: l).Pairwise (fun a b => ¬ lt b a) → (∀ a b c, lt a b → lt b c → lt a c) → (x :: compG x l).Pairwise lt
  | [], x, _, _ => List.pairwise_singleton _ _
  | y :: l, x, h, tr => by
    rw [compG]
    obtain ⟨h1, h2⟩ := List.pairwise_cons.1 h
    by_cases e : y = x
    · rw [if_pos e]
      exact compG_up ht (List.pairwise_cons.2 ⟨fun a ha => h1 a (List.mem_cons_of_mem _ ha), (List.pairwise_cons.1 h2).2⟩) tr
    · rw [if_neg e]
      have ih := compG_up ht h2 tr
      have hxy : lt x y := by
        rcases ht x y (h1 y List.mem_cons_self) with rfl | h
        · exact absurd rfl e
        · exact h
      refine List.pairwise_cons.2 ⟨fun a ha => ?_, ih⟩
      rcases List.mem_cons.1 ha with rfl | ha
      · exact hxy
      · exact tr _ _ _ hxy ((List.pairwise_cons.1 ih).1 a ha)
theorem comp_up {lt : α → α → Prop} (ht : ∀ x y, ¬ lt y x → x = y ∨ lt x y) (tr : ∀ a b c, lt a b → lt b c → lt a c) {l : List α} (h : l.Pairwise (fun a b => ¬ lt b a)) : (comp l).Pairwise lt := by
  cases l with
  | nil => exact List.Pairwise.nil
  | cons x l => exact compG_up ht h tr
/-- what rises strictly is its own first ones of runs -/
theorem compG_id : ∀ {l : List α} {x : α}, (x :: l).Pairwise (· ≠ ·) → compG x l = l
  | [], x, _ => rfl
  | y :: l, x, h => by
    obtain ⟨h1, h2⟩ := List.pairwise_cons.1 h
    rw [compG, if_neg (fun e => h1 y List.mem_cons_self e.symm), compG_id h2]
theorem comp_id {l : List α} (h : l.Pairwise (· ≠ ·)) : comp l = l := by
  cases l with
  | nil => rfl
  | cons x l => rw [comp, compG_id h]
omit [DecidableEq α] in
/-- two rising lists of the same things are one -/
theorem up_ext {lt : α → α → Prop} (ir : ∀ a, ¬ lt a a) (tr : ∀ a b c, lt a b → lt b c → lt a c) : ∀ {l m : List α}, l.Pairwise lt → m.Pairwise lt → (∀ x, x ∈ l ↔ x ∈ m) → l = m
  | [], [], _, _, _ => rfl
  | [], y :: m, _, _, h => by have := (h y).2 List.mem_cons_self; cases this
  | x :: l, [], _, _, h => by have := (h x).1 List.mem_cons_self; cases this
  | x :: l, y :: m, hl, hm, h => by
    obtain ⟨a1, a2⟩ := List.pairwise_cons.1 hl
    obtain ⟨b1, b2⟩ := List.pairwise_cons.1 hm
    have e : x = y := by
      rcases List.mem_cons.1 ((h x).1 List.mem_cons_self) with e | hx
      · exact e
      · rcases List.mem_cons.1 ((h y).2 List.mem_cons_self) with e | hy
        · exact e.symm
        · exact absurd (tr _ _ _ (a1 y hy) (b1 x hx)) (ir x)
    subst e
    congr 1
    refine up_ext ir tr a2 b2 fun z => ⟨fun hz => ?_, fun hz => ?_⟩
    · rcases List.mem_cons.1 ((h z).1 (List.mem_cons_of_mem _ hz)) with rfl | hz'
      · exact absurd (a1 _ hz) (ir _)
      · exact hz'
    · rcases List.mem_cons.1 ((h z).2 (List.mem_cons_of_mem _ hz)) with rfl | hz'
      · exact absurd (b1 _ hz) (ir _)
      · exact hz'
end comp
end Go.Aw.Cart
namespace Go.Aw.Ord
set_option linter.unusedVariables false
set_option linter.unusedSimpArgs false
section
variable {α : Type} (lt : α → α → Prop) [DecidableRel lt]
/-- how many at the front are less -/
def atI (e : α) : List α → Nat
  | [] => 0
  | x :: l => if lt x e then atI e l + 1 else 0
def insI (e : α) (l : List α) : List α := l.take (atI lt e l) ++ e :: l.drop (atI lt e l)
abbrev upI (l : List α) : Prop := l.Pairwise fun a b => ¬ lt b a
end
section
variable {α : Type} {lt : α → α → Prop} [DecidableRel lt]
theorem insI_cons {e x : α} {l : List α} : insI lt e (x :: l) = if lt x e then x :: insI lt e l else e :: x :: l := by
  have e1 : atI lt e (x :: l) = if lt x e then atI lt e l + 1 else 0 := rfl
  unfold insI
  rw [e1]
  split
  · rw [List.take_succ_cons, List.drop_succ_cons]; rfl
  · rfl
theorem insI_nil {e : α} : insI lt e [] = [e] := rfl
theorem atI_le {e : α} : ∀ {l : List α}, atI lt e l ≤ l.length
  | [] => Nat.le_refl _
  | x :: l => by
    unfold atI
    split
    · have := @atI_le e l; simp; omega
    · omega
theorem atI_stop [Inhabited α] {e : α} : ∀ {l : List α}, atI lt e l < l.length → ¬ lt (l.getD (atI lt e l) default) e
  | [], h => absurd h (Nat.not_lt_zero _)
  | x :: l, h => by
    unfold atI at h ⊢
    split
    · rename_i hx
      rw [if_pos hx] at h
      have := @atI_stop _ e l (by simpa using h)
      simpa using this
    · rename_i hx
      simpa using hx
theorem atI_lt [Inhabited α] {e : α} : ∀ {l : List α} {k : Nat}, k < atI lt e l → lt (l.getD k default) e
  | [], k, h => absurd h (Nat.not_lt_zero _)
  | x :: l, k, h => by
    unfold atI at h
    split at h
    · rename_i hx
      cases k with
      | zero => simpa using hx
      | succ k => simpa using @atI_lt _ e l k (by omega)
    · omega
/-- one step of the search -/
theorem atI_go [Inhabited α] {e : α} {l : List α} {k : Nat} (h : k ≤ atI lt e l) (hk : k < l.length) (hl : lt (l.getD k default) e) : k + 1 ≤ atI lt e l := by
  by_cases hh : k = atI lt e l
  · rw [hh] at hl hk; exact absurd hl (atI_stop hk)
  · omega
theorem atI_end [Inhabited α] {e : α} {l : List α} {k : Nat} (h : k ≤ atI lt e l) (hl : ¬ lt (l.getD k default) e) : k = atI lt e l := by
  by_cases hh : k < atI lt e l
  · exact absurd (atI_lt hh) hl
  · omega
theorem insI_perm {e : α} : ∀ {l : List α}, (insI lt e l).Perm (e :: l)
  | [] => List.Perm.refl _
  | x :: l => by
    rw [insI_cons]
    split
    · exact ((insI_perm (l := l)).cons x).trans (List.Perm.swap e x l)
    · exact List.Perm.refl _
theorem insI_len {e : α} {l : List α} : (insI lt e l).length = l.length + 1 := by rw [insI_perm.length_eq, List.length_cons]
theorem insI_mem {e y : α} {l : List α} : y ∈ insI lt e l ↔ y = e ∨ y ∈ l := by rw [insI_perm.mem_iff, List.mem_cons]
theorem insI_up (as : ∀ a b, lt a b → ¬ lt b a) (nt : ∀ a b c, ¬ lt a b → ¬ lt b c → ¬ lt a c) {e : α} : ∀ {l : List α}, upI lt l → upI lt (insI lt e l)
  | [], _ => List.pairwise_singleton _ _
  | x :: l, h => by
    obtain ⟨h1, h2⟩ := List.pairwise_cons.1 h
    rw [insI_cons]
    split
    · rename_i hx
      refine List.pairwise_cons.2 ⟨fun y hy => ?_, insI_up as nt h2⟩
      rcases insI_mem.1 hy with rfl | hy
      · exact as _ _ hx
      · exact h1 y hy
    · rename_i hx
      refine List.pairwise_cons.2 ⟨fun y hy => ?_, h⟩
      rcases List.mem_cons.1 hy with rfl | hy
      · exact hx
      · exact nt _ _ _ (h1 y hy) hx
/-- inserted into a strictly rising list that has it not -/
theorem insI_sup (tot : ∀ a b, ¬ lt a b → ¬ lt b a → a = b) (tr : ∀ a b c, lt a b → lt b c → lt a c) {e : α} : ∀ {l : List α}, l.Pairwise lt → e ∉ l → (insI lt e l).Pairwise lt
  | [], _, _ => List.pairwise_singleton _ _
  | x :: l, h, hn => by
    obtain ⟨h1, h2⟩ := List.pairwise_cons.1 h
    rw [insI_cons]
    split
    · rename_i hx
      refine List.pairwise_cons.2 ⟨fun y hy => ?_, insI_sup tot tr h2 fun k => hn (List.mem_cons_of_mem _ k)⟩
      rcases insI_mem.1 hy with rfl | hy
      · exact hx
      · exact h1 y hy
    · rename_i hx
      have hex : lt e x := by
        by_cases k : lt e x
        · exact k
        · exact absurd (tot _ _ k hx) (fun q => hn (by rw [q]; exact List.mem_cons_self))
      refine List.pairwise_cons.2 ⟨fun y hy => ?_, h⟩
      rcases List.mem_cons.1 hy with rfl | hy
      · exact hex
      · exact tr _ _ _ hex (h1 y hy)
omit [DecidableRel lt] in
/-- two lists in order of the same things are one -/
theorem up_uniq (tot : ∀ a b, ¬ lt a b → ¬ lt b a → a = b) : ∀ {l m : List α}, l.Perm m → upI lt l → upI lt m → l = m
  | [], m, h, _, _ => by have := h.length_eq; cases m <;> simp_all
  | x :: l, [], h, _, _ => by have := h.length_eq; simp at this
  | x :: l, y :: m, h, hl, hm => by
    obtain ⟨a1, a2⟩ := List.pairwise_cons.1 hl
    obtain ⟨b1, b2⟩ := List.pairwise_cons.1 hm
    have e : x = y := by
      rcases List.mem_cons.1 (h.mem_iff.1 List.mem_cons_self) with e | hx
      · exact e
      · rcases List.mem_cons.1 (h.mem_iff.2 (List.mem_cons_self (a := y))) with e | hy
        · exact e.symm
        · exact tot _ _ (b1 x hx) (a1 y hy)
    subst e
    rw [up_uniq tot (List.Perm.cons_inv h) a2 b2]
end
open Go.Aw.Cart
theorem compG_sub {α : Type} [DecidableEq α] : ∀ {l : List α} {x : α}, (compG x l).Sublist l
  | [], x => List.Sublist.refl _
  | y :: l, x => by
    unfold compG
    split
    · exact List.Sublist.cons _ (@compG_sub _ _ l x)
    · exact (@compG_sub _ _ l y).cons_cons _
theorem comp_sub {α : Type} [DecidableEq α] {l : List α} : (comp l).Sublist l := by
  cases l with
  | nil => exact List.Sublist.refl _
  | cons x l => exact compG_sub.cons_cons _
end Go.Aw.Ord
