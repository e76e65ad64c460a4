/- Carts in plain Lean: insertion, one by one, comes to the sorted list. Nothing here speaks of a program. -/
import Derived.Test.YtacofbbclmbbeaaCaL
namespace Go.Aw.Ord
set_option linter.unusedVariables false
set_option linter.unusedSimpArgs false
section
variable {α : Type} (lt : α → α → Prop) [DecidableRel lt]
/-- how many at the front are less -/
def atI (e : α) : List α → Nat
  | [] => 0
  | x :: l => if lt x e then atI e l + 1 else 0
def insI (e : α) (l : List α) : List α := l.take (atI lt e l) ++ e :: l.drop (atI lt e l)
abbrev upI (l : List α) : Prop := l.Pairwise fun a b => ¬ lt b a
end
section
variable {α : Type} {lt : α → α → Prop} [DecidableRel lt]
theorem insI_cons {e x : α} {l : List α} : insI lt e (x :: l) = if lt x e then x :: insI lt e l else e :: x :: l := by
  have e1 : atI lt e (x :: l) = if lt x e then atI lt e l + 1 else 0 := rfl
  unfold insI
  rw [e1]
  split
  · rw [List.take_succ_cons, List.drop_succ_cons]; rfl
  · rfl
theorem insI_nil {e : α} : insI lt e [] = [e] := rfl
theorem atI_le {e : α} : ∀ {l : List α}, atI lt e l ≤ l.length
  | [] => Nat.le_refl _
  | x :: l => by
    unfold atI
    split
    · have := @atI_le e l; simp; omega
    · omega
theorem atI_stop [Inhabited α] {e : α} : ∀ {l : List α}, atI lt e l < l.length → ¬ lt (l.getD (atI lt e l) default) e
  | [], h => absurd h (Nat.not_lt_zero _)
  | x :: l, h => by
    unfold atI at h ⊢
    split
    · rename_i hx
      rw [if_pos hx] at h
      have := @atI_stop _ e l (by simpa using h)
      simpa using this
    · rename_i hx
      simpa using hx
theorem atI_lt [Inhabited α] {e : α} : ∀ {l : List α} {k : Nat}, k < atI lt e l → lt (l.getD k default) e
  | [], k, h => absurd h (Nat.not_lt_zero _)
  | x :: l, k, h => by
    unfold atI at h
    split at h
    · rename_i hx
      cases k with
      | zero => simpa using hx
      | succ k => simpa using @atI_lt _ e l k (by omega)
    · omega
/-- one step of the search -/
theorem atI_go [Inhabited α] {e : α} {l : List α} {k : Nat} (h : k ≤ atI lt e l) (hk : k < l.length) (hl : lt (l.getD k default) e) : k + 1 ≤ atI lt e l := by
  by_cases hh : k = atI lt e l
  · rw [hh] at hl hk; exact absurd hl (atI_stop hk)
  · omega
theorem atI_end [Inhabited α] {e : α} {l : List α} {k : Nat} (h : k ≤ atI lt e l) (hl : ¬ lt (l.getD k default) e) : k = atI lt e l := by
  by_cases hh : k < atI lt e l
  · exact absurd (atI_lt hh) hl
  · omega
theorem insI_perm {e : α} : ∀ {l : List α}, (insI lt e l).Perm (e :: l)
  | [] => List.Perm.refl _
  | x :: l => by
    rw [insI_cons]
    split
    · exact ((insI_perm (l := l)).cons x).trans (List.Perm.swap e x l)
    · exact List.Perm.refl _
theorem insI_len {e : α} {l : List α} : (insI lt e l).length = l.length + 1 := by rw [insI_perm.length_eq, List.length_cons]
theorem insI_mem {e y : α} {l : List α} : y ∈ insI lt e l ↔ y = e ∨ y ∈ l := by rw [insI_perm.mem_iff, List.mem_cons]
theorem insI_up (as : ∀ a b, lt a b → ¬ lt b a) (nt : ∀ a b c, ¬ lt a b → ¬ lt b c → ¬ lt a c) {e : α} : ∀ {l : List α}, upI lt l → upI lt (insI lt e l)
  | [], _ => List.pairwise_singleton _ _
  | x :: l, h => by
    obtain ⟨h1, h2⟩ := List.pairwise_cons.1 h
    rw [insI_cons]
    split
    · rename_i hx
      refine List.pairwise_cons.2 ⟨fun y hy => ?_, insI_up as nt h2⟩
      rcases insI_mem.1 hy with rfl | hy
      · exact as _ _ hx
      · exact h1 y hy
    · rename_i hx
      refine List.pairwise_cons.2 ⟨fun y hy => ?_, h⟩
      rcases List.mem_cons.1 hy with rfl | hy
      · exact hx
      · exact nt _ _ _ (h1 y hy) hx
/-- inserted into a strictly rising list that has it not -/
theorem insI_sup (tot : ∀ a b, ¬ lt a b → ¬ lt b a → a = b) (tr : ∀ a b c, lt a b → lt b c → lt a c) {e : α} : ∀ {l : List α}, l.Pairwise lt → e ∉ l → (insI lt e l).Pairwise lt
  | [], _, _ => List.pairwise_singleton _ _
  | x :: l, h, hn => by
    obtain ⟨h1, h2⟩ := List.pairwise_cons.1 h
    rw [insI_cons]
    split
    · rename_i hx
      refine List.pairwise_cons.2 ⟨fun y hy => ?_, insI_sup tot tr h2 fun k => hn (List.mem_cons_of_mem _ k)⟩
      rcases insI_mem.1 hy with rfl | hy
      · exact hx
      · exact h1 y hy
    · rename_i hx
      have hex : lt e x := by
        by_cases k : lt e x
        · exact k
        · exact absurd (tot _ _ k hx) (fun q => hn (by rw [q]; exact List.mem_cons_self))
      refine List.pairwise_cons.2 ⟨fun y hy => ?_, h⟩
      rcases List.mem_cons.1 hy with rfl | hy
      · exact hex
      · exact tr _ _ _ hex (h1 y hy)
omit [DecidableRel lt] in
/-- two lists in order of the same things are one -/
theorem up_uniq (tot : ∀ a b, ¬ lt a b → ¬ lt b a → a = b) : ∀ {l m : List α}, l.Perm m → upI lt l → upI lt m → l = m
  | [], m, h, _, _ => by have := h.length_eq; cases m <;> simp_all
  | x :: l, [], h, _, _ => by have := h.length_eq; simp at this
  | x :: l, y :: m, h, hl, hm => by
    obtain ⟨a1, a2⟩ := List.pairwise_cons.1 hl
    obtain ⟨b1, b2⟩ := List.pairwise_cons.1 hm
    have e : x = y := by
      rcases List.mem_cons.1 (h.mem_iff.1 List.mem_cons_self) with e | hx
      · exact e
      · rcases List.mem_cons.1 (h.mem_iff.2 (List.mem_cons_self (a := y))) with e | hy
        · exact e.symm
        · exact tot _ _ (b1 x hx) (a1 y hy)
    subst e
    rw [up_uniq tot (List.Perm.cons_inv h) a2 b2]
end
open Go.Aw.Cart
theorem compG_sub {α : Type} [DecidableEq α] : ∀ {l : List α} {x : α}, (compG x l).Sublist l
  | [], x => List.Sublist.refl _
  | y :: l, x => by
    unfold compG
    split
    · exact List.Sublist.cons _ (@compG_sub _ _ l x)
    · exact (@compG_sub _ _ l y).cons_cons _
theorem comp_sub {α : Type} [DecidableEq α] {l : List α} : (comp l).Sublist l := by
  cases l with
  | nil => exact List.Sublist.refl _
  | cons x l => exact compG_sub.cons_cons _
end Go.Aw.Ord
