/- carts in plain Lean: what they are worth -/
import Derived.Test.YtacofbbclmbbeaaCaZ
namespace Go.Proofs.Ytacofbbclmbbeaa.Ca
open Go Go.RowKit Go.Aw Go.Aw.Cart Go.Aw.Ord Go.Sort
set_option linter.unusedVariables false
set_option linter.unusedSimpArgs false
/-! the items, and their lines -/
def itemsF (l : List Ent) : List Int := comp ((sortE l).map (·.1))
theorem mapD {l : List Ent} {i : Nat} (h : i < l.length) : (l.map (·.1)).getD i default = (l.getD i default).1 := by
  rw [getD_at (by rw [List.length_map]; exact h), getD_at h, List.getElem_map]
theorem valTo_is {l : List Ent} : ∀ {i : Nat}, i ≤ (sortE l).length → valTo l i = (comp (((sortE l).map (·.1)).take i)).map fun x => (x, getQ l x)
  | 0, _ => rfl
  | i + 1, h => by
    have hi : i < ((sortE l).map (·.1)).length := by rw [List.length_map]; omega
    rw [valTo_next, valTo_is (i := i) (by omega)]
    by_cases h0 : i = 0
    · subst h0
      rw [if_pos (.inl rfl), comp_one, take_get' hi, mapD (by omega)]; rfl
    · rw [comp_take hi (by omega), mapD (by omega), mapD (by omega)]
      by_cases e : ((sortE l).getD (i - 1) default).1 = ((sortE l).getD i default).1
      · rw [if_neg (fun k => k.elim h0 fun q => q e), if_pos e.symm, List.append_nil]
      · rw [if_pos (.inr e), if_neg (fun k => e k.symm), List.map_append]; rfl
theorem valueF_is (l : List Ent) : valueF l = (itemsF l).map fun x => (x, getQ l x) := by
  rw [valueF, valTo_is (Nat.le_refl _), itemsF, List.take_of_length_le (by rw [List.length_map]; exact Nat.le_refl _)]
theorem items_up (l : List Ent) : (itemsF l).Pairwise (· < ·) := by
  refine comp_up (lt := fun a b : Int => a < b) (fun x y h => by omega) (fun a b c => Int.lt_trans) ?_
  refine List.Pairwise.map _ (fun a b h => ?_) (sortE_up l)
  unfold ltE at h
  omega
theorem items_mem {l : List Ent} {x : Int} : x ∈ itemsF l ↔ ∃ e ∈ l, e.1 = x := by
  rw [itemsF, mem_comp, List.mem_map]
  exact ⟨fun ⟨e, he, h⟩ => ⟨e, sortE_mem.1 he, h⟩, fun ⟨e, he, h⟩ => ⟨e, sortE_mem.2 he, h⟩⟩
theorem value_at {l : List Ent} {i : Nat} (h : i < (valueF l).length) : ∃ hi : i < (itemsF l).length, (valueF l).getD i default = ((itemsF l)[i], getQ l (itemsF l)[i]) := by
  have e := valueF_is l
  have hi : i < (itemsF l).length := by rw [e, List.length_map] at h; exact h
  refine ⟨hi, ?_⟩
  rw [getD_at h]
  simp [e]
/-- each line: its quantity is what Get tells -/
theorem value_q {l : List Ent} {i : Nat} (h : i < (valueF l).length) : ((valueF l).getD i default).2 = getQ l ((valueF l).getD i default).1 := by
  obtain ⟨hi, e⟩ := value_at h; rw [e]
theorem value_is {l : List Ent} {i : Nat} (h : i < (valueF l).length) : 0 < (ofF l ((valueF l).getD i default).1).length := by
  obtain ⟨hi, e⟩ := value_at h
  rw [e]
  obtain ⟨x, hx, hxe⟩ := items_mem.1 (List.getElem_mem hi)
  exact List.length_pos_of_mem (ofF_mem.2 ⟨hx, hxe⟩)
theorem value_rise {l : List Ent} {i : Nat} (h0 : 0 < i) (h : i < (valueF l).length) : ((valueF l).getD (i - 1) default).1 < ((valueF l).getD i default).1 := by
  obtain ⟨hi, e⟩ := value_at h
  obtain ⟨hj, e'⟩ := value_at (l := l) (i := i - 1) (by omega)
  rw [e, e']
  exact List.pairwise_iff_getElem.1 (items_up l) (i - 1) i hj hi (by omega)
theorem value_len (l : List Ent) : (valueF l).length ≤ l.length := by
  exact Nat.le_trans (valTo_len l (sortE l).length) (Nat.le_of_eq (sortE_len l))
/-! each entry counts for one item -/
def sumN : List Nat → Nat
  | [] => 0
  | n :: l => n + sumN l
theorem sumN_add {α : Type} {f g : α → Nat} : ∀ {l : List α}, sumN (l.map fun x => f x + g x) = sumN (l.map f) + sumN (l.map g)
  | [] => rfl
  | x :: l => by simp only [List.map_cons, sumN]; rw [sumN_add]; omega
theorem sumN_zero {α : Type} {f : α → Nat} : ∀ {l : List α}, (∀ x ∈ l, f x = 0) → sumN (l.map f) = 0
  | [], _ => rfl
  | x :: l, h => by simp only [List.map_cons, sumN]; rw [h x List.mem_cons_self, sumN_zero fun y hy => h y (List.mem_cons_of_mem _ hy)]
theorem sumN_one {a : Int} : ∀ {l : List Int}, l.Nodup → a ∈ l → sumN (l.map fun x => if a = x then 1 else 0) = 1
  | [], _, h => by cases h
  | x :: l, hn, h => by
    obtain ⟨h1, h2⟩ := List.nodup_cons.1 hn
    simp only [List.map_cons, sumN]
    by_cases e : a = x
    · rw [if_pos e, sumN_zero fun y hy => if_neg fun q => h1 (by rw [← e, q]; exact hy)]
    · rw [if_neg e, sumN_one h2 ((List.mem_cons.1 h).resolve_left e)]
theorem ofF_cons {e : Ent} {l : List Ent} {x : Int} : (ofF (e :: l) x).length = (ofF l x).length + if e.1 = x then 1 else 0 := by
  unfold ofF
  rw [List.filter_cons]
  by_cases h : e.1 = x <;> simp [h]
theorem count_all {xs : List Int} (h : xs.Nodup) : ∀ {l : List Ent}, (∀ e ∈ l, e.1 ∈ xs) → sumN (xs.map fun x => (ofF l x).length) = l.length
  | [], _ => sumN_zero fun x _ => rfl
  | e :: l, hl => by
    have e1 : (fun x => (ofF (e :: l) x).length) = fun x => (ofF l x).length + if e.1 = x then 1 else 0 := by funext x; exact ofF_cons
    rw [e1, sumN_add, count_all h fun y hy => hl y (List.mem_cons_of_mem _ hy), sumN_one h (hl e List.mem_cons_self), List.length_cons]
def cntTo (l : List Ent) (v : List Dot) : Nat → Int
  | 0 => 0
  | i + 1 => cntTo l v i + ((ofF l (v.getD i default).1).length : Int)
theorem sumN_snoc {n : Nat} : ∀ {l : List Nat}, sumN (l ++ [n]) = sumN l + n
  | [] => by simp [sumN]
  | x :: l => by simp only [List.cons_append, sumN]; rw [sumN_snoc]; omega
theorem cntTo_is {l : List Ent} {v : List Dot} : ∀ {i : Nat}, i ≤ v.length → cntTo l v i = ((sumN ((v.take i).map fun x => (ofF l x.1).length) : Nat) : Int)
  | 0, _ => rfl
  | i + 1, h => by
    rw [cntTo, cntTo_is (i := i) (by omega), take_get' (by omega), List.map_append, List.map_cons, List.map_nil, sumN_snoc]
    omega
theorem cntTo_in {l : List Ent} {v : List Dot} : ∀ {i : Nat}, 0 ≤ cntTo l v i ∧ cntTo l v i ≤ (i : Int) * (l.length : Int)
  | 0 => ⟨Int.le_refl _, by simp [cntTo]⟩
  | i + 1 => by
    obtain ⟨h1, h2⟩ := @cntTo_in l v i
    have := ofF_len l (v.getD i default).1
    rw [cntTo, Int.natCast_add, Int.add_mul]
    refine ⟨by omega, ?_⟩
    have e : ((1 : Nat) : Int) * (l.length : Int) = (l.length : Int) := by simp
    rw [e]; omega
theorem cnt_whole (l : List Ent) : cntTo l (valueF l) (valueF l).length = (l.length : Int) := by
  rw [cntTo_is (Nat.le_refl _), List.take_length, valueF_is, List.map_map]
  have e : ((fun x : Dot => (ofF l x.1).length) ∘ fun x => (x, getQ l x)) = fun x => (ofF l x).length := rfl
  rw [e, count_all ((items_up l).imp fun {a b} h => by omega) fun y hy => items_mem.2 ⟨y, hy, rfl⟩]
/-! the order does not matter -/
def upS : List Ent → Int
  | [] => 0
  | e :: l => (ofT e.2.2.2).1 + upS l
def dnS : List Ent → Int
  | [] => 0
  | e :: l => (ofT e.2.2.2).2 + dnS l
theorem ofT_pos (n : Int) : 0 ≤ (ofT n).1 ∧ 0 ≤ (ofT n).2 := by unfold ofT; split <;> (simp only; omega)
theorem upS_pos : ∀ l : List Ent, 0 ≤ upS l ∧ 0 ≤ dnS l
  | [] => ⟨Int.le_refl _, Int.le_refl _⟩
  | e :: l => by
    obtain ⟨h1, h2⟩ := ofT_pos e.2.2.2
    obtain ⟨h3, h4⟩ := upS_pos l
    exact ⟨by rw [upS]; omega, by rw [dnS]; omega⟩
theorem upS_snoc {e : Ent} : ∀ {l : List Ent}, upS (l ++ [e]) = upS l + (ofT e.2.2.2).1 ∧ dnS (l ++ [e]) = dnS l + (ofT e.2.2.2).2
  | [] => by simp [upS, dnS]
  | x :: l => by
    obtain ⟨h1, h2⟩ := @upS_snoc e l
    simp only [List.cons_append, upS, dnS]
    rw [h1, h2]; exact ⟨by omega, by omega⟩
theorem upS_perm {l m : List Ent} (h : l.Perm m) : upS l = upS m ∧ dnS l = dnS m := by
  induction h with
  | nil => exact ⟨rfl, rfl⟩
  | cons x _ ih => simp only [upS, dnS]; rw [ih.1, ih.2]; exact ⟨rfl, rfl⟩
  | swap x y l => simp only [upS, dnS]; exact ⟨by omega, by omega⟩
  | trans _ _ ih1 ih2 => exact ⟨ih1.1.trans ih2.1, ih1.2.trans ih2.2⟩
theorem more_mn {a b : Int} (ha : 0 ≤ a) (hb : 0 ≤ b) : moreF (mnF a) b = mnF (a + b) := by
  unfold moreF mnF
  repeat' split
  all_goals omega
theorem tTo_is {m : List Ent} : ∀ {i : Nat}, i ≤ m.length → tTo m i = (mnF (upS (m.take i)), mnF (dnS (m.take i)))
  | 0, _ => rfl
  | i + 1, h => by
    obtain ⟨h1, h2⟩ := upS_pos (m.take i)
    obtain ⟨h3, h4⟩ := ofT_pos (m.getD i default).2.2.2
    rw [tTo, tTo_is (i := i) (by omega), addF, plusF, more_mn h1 h3, more_mn h2 h4, take_get' (by omega), upS_snoc.1, upS_snoc.2]
theorem getQ_is (l : List Ent) (x : Int) : getQ l x = valF (mnF (upS (ofF l x)), mnF (dnS (ofF l x))) := by
  rw [getQ, tTo_is (Nat.le_refl _), List.take_length]
theorem getQ_perm {l m : List Ent} (h : l.Perm m) (x : Int) : getQ l x = getQ m x := by
  have := upS_perm (show (ofF l x).Perm (ofF m x) from h.filter _)
  rw [getQ_is, getQ_is, this.1, this.2]
theorem valueF_perm {l m : List Ent} (h : l.Perm m) : valueF l = valueF m := by
  rw [valueF_is, valueF_is, itemsF, itemsF, sortE_of h]
  exact List.map_congr_left fun x _ => by rw [getQ_perm h]
theorem turn_perm {l : List Ent} (k : Nat) : (l.drop k ++ l.take k).Perm l := by
  have := List.perm_append_comm (l₁ := l.drop k) (l₂ := l.take k)
  rwa [List.take_append_drop] at this
end Go.Proofs.Ytacofbbclmbbeaa.Ca
