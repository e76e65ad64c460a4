/- Carts in plain Lean: runs of equal things, sorted lists, insertion. Nothing here speaks of a program. -/
import Derived.Test.YtacofbbclmbbeaaCaM
namespace Go.Aw.Cart
set_option linter.unusedVariables false
set_option linter.unusedSimpArgs false
section comp
variable {α : Type} [DecidableEq α]
def compG (x : α) : List α → List α
  | [] => []
  | y :: l => if y = x then compG x l else y :: compG y l
/-- the first of each run -/
def comp : List α → List α
  | [] => []
  | x :: l => x :: compG x l
theorem compG_snoc (y : α) : ∀ (l : List α) (x : α), compG x (l ++ [y]) = compG x l ++ (if y = (x :: l).getLast (by simp) then [] else [y])
  | [], x => by by_cases e : y = x <;> simp [compG, e]
  | z :: l, x => by
    have e : (x :: z :: l).getLast (by simp) = (z :: l).getLast (by simp) := List.getLast_cons _
    simp only [List.cons_append, compG, e]
    by_cases h : z = x
    · subst h
      rw [if_pos rfl, if_pos rfl, compG_snoc y l z]
    · rw [if_neg h, if_neg h, compG_snoc y l z, List.cons_append]
theorem comp_snoc (l : List α) (y : α) (h : l ≠ []) : comp (l ++ [y]) = comp l ++ (if y = l.getLast h then [] else [y]) := by
  cases l with
  | nil => exact absurd rfl h
  | cons x l => simp only [List.cons_append, comp, compG_snoc]
theorem comp_take [Inhabited α] {l : List α} {k : Nat} (h : k < l.length) (h1 : 1 ≤ k) : comp (l.take (k + 1)) = comp (l.take k) ++ (if l.getD k default = l.getD (k - 1) default then [] else [l.getD k default]) := by
  rw [List.take_succ_eq_append_getElem h, comp_snoc _ _ (by
    intro e
    have := congrArg List.length e
    rw [List.length_take, List.length_nil] at this; omega)]
  have e1 : l.getD k default = l[k] := by rw [List.getD_eq_getElem?_getD, List.getElem?_eq_getElem h]; rfl
  have e2 : ∀ hne, (l.take k).getLast hne = l.getD (k - 1) default := fun hne => by
    rw [List.getLast_eq_getElem, List.getD_eq_getElem?_getD, List.getElem?_eq_getElem (by omega : k - 1 < l.length), List.getElem_take]
    simp only [List.length_take, Option.getD_some]
    congr 1; omega
  rw [e1, e2]
theorem comp_one (l : List α) : comp (l.take 1) = l.take 1 := by
  cases l with
  | nil => rfl
  | cons x l => rfl
theorem compG_len (l : List α) : ∀ x, (compG x l).length ≤ l.length := by
  induction l with
  | nil => intro x; exact Nat.le_refl _
  | cons y l ih =>
    intro x
    rw [compG]
    split
    · exact Nat.le_succ_of_le (ih x)
    · exact Nat.succ_le_succ (ih y)
theorem comp_len (l : List α) : (comp l).length ≤ l.length := by
  cases l with
  | nil => exact Nat.le_refl _
  | cons x l => exact Nat.succ_le_succ (compG_len l x)
theorem mem_compG {y : α} : ∀ {l : List α} {x : α}, y ∈ compG x l → y ∈ l
  | [], x, h => by cases h
  | z :: l, x, h => by
    rw [compG] at h
    split at h
    · exact List.mem_cons_of_mem _ (mem_compG h)
    · rcases List.mem_cons.1 h with rfl | h
      · exact List.mem_cons_self
      · exact List.mem_cons_of_mem _ (mem_compG h)
theorem compG_mem {y : α} : ∀ {l : List α} {x : α}, y ∈ l → y = x ∨ y ∈ compG x l
  | z :: l, x, h => by
    rw [compG]
    rcases List.mem_cons.1 h with rfl | h
    · by_cases e : y = x
      · exact .inl e
      · rw [if_neg e]; exact .inr List.mem_cons_self
    · by_cases e : z = x
      · rw [if_pos e]; exact compG_mem h
      · rw [if_neg e]
        rcases compG_mem (x := z) h with rfl | h
        · exact .inr List.mem_cons_self
        · exact .inr (List.mem_cons_of_mem _ h)
theorem mem_comp {y : α} {l : List α} : y ∈ comp l ↔ y ∈ l := by
  cases l with
  | nil => rfl
  | cons x l =>
    rw [comp]
    constructor
    · intro h
      rcases List.mem_cons.1 h with rfl | h
      · exact List.mem_cons_self
      · exact List.mem_cons_of_mem _ (mem_compG h)
    · intro h
      rcases List.mem_cons.1 h with rfl | h
      · exact List.mem_cons_self
      · rcases compG_mem (x := x) h with rfl | h
        · exact List.mem_cons_self
        · exact List.mem_cons_of_mem _ h
/-- of what does not fall the first ones of runs rise -/
theorem compG_up {lt : α → α → Prop} (ht : ∀ x y, ¬ lt y x → x = y ∨ lt x y) : ∀ {l : List α} {x : α}, (x :: l).Pairwise (fun a b => ¬ lt b a) → (∀ a b c, lt a b → lt b c → lt a c) → (x :: compG x l).Pairwise lt
  | [], x, _, _ => List.pairwise_singleton _ _
  | y :: l, x, h, tr => by
    rw [compG]
    obtain ⟨h1, h2⟩ := List.pairwise_cons.1 h
    by_cases e : y = x
    · rw [if_pos e]
      exact compG_up ht (List.pairwise_cons.2 ⟨fun a ha => h1 a (List.mem_cons_of_mem _ ha), (List.pairwise_cons.1 h2).2⟩) tr
    · rw [if_neg e]
      have ih := compG_up ht h2 tr
      have hxy : lt x y := by
        rcases ht x y (h1 y List.mem_cons_self) with rfl | h
        · exact absurd rfl e
        · exact h
      refine List.pairwise_cons.2 ⟨fun a ha => ?_, ih⟩
      rcases List.mem_cons.1 ha with rfl | ha
      · exact hxy
      · exact tr _ _ _ hxy ((List.pairwise_cons.1 ih).1 a ha)
theorem comp_up {lt : α → α → Prop} (ht : ∀ x y, ¬ lt y x → x = y ∨ lt x y) (tr : ∀ a b c, lt a b → lt b c → lt a c) {l : List α} (h : l.Pairwise (fun a b => ¬ lt b a)) : (comp l).Pairwise lt := by
  cases l with
  | nil => exact List.Pairwise.nil
  | cons x l => exact compG_up ht h tr
/-- what rises strictly is its own first ones of runs -/
theorem compG_id : ∀ {l : List α} {x : α}, (x :: l).Pairwise (· ≠ ·) → compG x l = l
  | [], x, _ => rfl
  | y :: l, x, h => by
    obtain ⟨h1, h2⟩ := List.pairwise_cons.1 h
    rw [compG, if_neg (fun e => h1 y List.mem_cons_self e.symm), compG_id h2]
theorem comp_id {l : List α} (h : l.Pairwise (· ≠ ·)) : comp l = l := by
  cases l with
  | nil => rfl
  | cons x l => rw [comp, compG_id h]
omit [DecidableEq α] in
/-- two rising lists of the same things are one -/
theorem up_ext {lt : α → α → Prop} (ir : ∀ a, ¬ lt a a) (tr : ∀ a b c, lt a b → lt b c → lt a c) : ∀ {l m : List α}, l.Pairwise lt → m.Pairwise lt → (∀ x, x ∈ l ↔ x ∈ m) → l = m
  | [], [], _, _, _ => rfl
  | [], y :: m, _, _, h => by have := (h y).2 List.mem_cons_self; cases this
  | x :: l, [], _, _, h => by have := (h x).1 List.mem_cons_self; cases this
  | x :: l, y :: m, hl, hm, h => by
    obtain ⟨a1, a2⟩ := List.pairwise_cons.1 hl
    obtain ⟨b1, b2⟩ := List.pairwise_cons.1 hm
    have e : x = y := by
      rcases List.mem_cons.1 ((h x).1 List.mem_cons_self) with e | hx
      · exact e
      · rcases List.mem_cons.1 ((h y).2 List.mem_cons_self) with e | hy
        · exact e.symm
        · exact absurd (tr _ _ _ (a1 y hy) (b1 x hx)) (ir x)
    subst e
    congr 1
    refine up_ext ir tr a2 b2 fun z => ⟨fun hz => ?_, fun hz => ?_⟩
    · rcases List.mem_cons.1 ((h z).1 (List.mem_cons_of_mem _ hz)) with rfl | hz'
      · exact absurd (a1 _ hz) (ir _)
      · exact hz'
    · rcases List.mem_cons.1 ((h z).2 (List.mem_cons_of_mem _ hz)) with rfl | hz'
      · exact absurd (b1 _ hz) (ir _)
      · exact hz'
end comp
end Go.Aw.Cart
