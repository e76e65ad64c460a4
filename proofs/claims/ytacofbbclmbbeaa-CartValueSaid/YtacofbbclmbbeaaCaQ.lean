/- carts in plain Lean: entries in order, sets of dots, values: in two ways -/
import Derived.Test.YtacofbbclmbbeaaCaO
import Derived.Test.YtacofbbclmbbeaaCaK
import Derived.Test.YtacofbbclmbbeaaCaN
namespace Go.Proofs.Ytacofbbclmbbeaa.Ca
open Go Go.RowKit Go.Aw Go.Aw.Cart Go.Aw.Ord Go.Sort
set_option linter.unusedVariables false
set_option linter.unusedSimpArgs false
theorem ltE_ir (a : Ent) : ¬ ltE a a := by unfold ltE; omega
theorem ltE_tr (a b c : Ent) : ltE a b → ltE b c → ltE a c := by unfold ltE; omega
theorem ltE_as (a b : Ent) : ltE a b → ¬ ltE b a := by unfold ltE; omega
theorem ltE_nt (a b c : Ent) : ¬ ltE a b → ¬ ltE b c → ¬ ltE a c := by unfold ltE; omega
theorem ltE_tot (a b : Ent) (h : ¬ ltE a b) (k : ¬ ltE b a) : a = b := totE a b (by rw [ltE_of]; exact decide_eq_false h) (by rw [ltE_of]; exact decide_eq_false k)
theorem ltD_ir (a : Dot) : ¬ ltD a a := by unfold ltD; omega
theorem ltD_tr (a b c : Dot) : ltD a b → ltD b c → ltD a c := by unfold ltD; omega
theorem ltD_as (a b : Dot) : ltD a b → ¬ ltD b a := by unfold ltD; omega
theorem ltD_nt (a b c : Dot) : ¬ ltD a b → ¬ ltD b c → ¬ ltD a c := by unfold ltD; omega
theorem ltD_tot (a b : Dot) (h : ¬ ltD a b) (k : ¬ ltD b a) : a = b := totD a b (by rw [ltD_of]; exact decide_eq_false h) (by rw [ltD_of]; exact decide_eq_false k)
theorem sortE_perm (l : List Ent) : (sortE l).Perm l := List.mergeSort_perm ..
theorem sortD_perm (l : List Dot) : (sortD l).Perm l := List.mergeSort_perm ..
theorem sortE_up (l : List Ent) : upI ltE (sortE l) := by
  have h := List.pairwise_mergeSort (le := fun x y => !(ltOf ordE) y x) (fun a b c h k => ?_) (fun a b => ?_) l
  · refine List.Pairwise.imp (fun {a b} h => ?_) h
    simpa [ltE_of] using h
  · simp only [ltE_of, Bool.not_eq_true', decide_eq_false_iff_not] at h k ⊢
    exact ltE_nt _ _ _ k h
  · simp only [ltE_of, Bool.or_eq_true, Bool.not_eq_true', decide_eq_false_iff_not]
    by_cases k : ltE b a
    · exact .inr (ltE_as _ _ k)
    · exact .inl k
theorem sortD_up (l : List Dot) : upI ltD (sortD l) := by
  have h := List.pairwise_mergeSort (le := fun x y => !(ltOf cmpD) y x) (fun a b c h k => ?_) (fun a b => ?_) l
  · refine List.Pairwise.imp (fun {a b} h => ?_) h
    simpa [ltD_of] using h
  · simp only [ltD_of, Bool.not_eq_true', decide_eq_false_iff_not] at h k ⊢
    exact ltD_nt _ _ _ k h
  · simp only [ltD_of, Bool.or_eq_true, Bool.not_eq_true', decide_eq_false_iff_not]
    by_cases k : ltD b a
    · exact .inr (ltD_as _ _ k)
    · exact .inl k
theorem sortE_is {l m : List Ent} (h : m.Perm l) (hm : upI ltE m) : sortE l = m := up_uniq ltE_tot ((sortE_perm l).trans h.symm) (sortE_up l) hm
theorem sortE_of {l m : List Ent} (h : l.Perm m) : sortE l = sortE m := sortE_is ((sortE_perm m).trans h.symm) (sortE_up m)
theorem sortE_id {l : List Ent} (h : upI ltE l) : sortE l = l := sortE_is (.refl _) h
theorem sortE_mem {l : List Ent} {e : Ent} : e ∈ sortE l ↔ e ∈ l := (sortE_perm l).mem_iff
/-- one by one -/
def insTo (l : List Ent) : Nat → List Ent
  | 0 => []
  | i + 1 => insI ltE (l.getD i default) (insTo l i)
theorem take_get' {α : Type} [Inhabited α] {l : List α} {i : Nat} (h : i < l.length) : l.take (i + 1) = l.take i ++ [l.getD i default] := by
  rw [List.getD_eq_getElem?_getD, List.getElem?_eq_getElem h]; exact List.take_succ_eq_append_getElem h
theorem insTo_is {l : List Ent} : ∀ {i : Nat}, i ≤ l.length → insTo l i = sortE (l.take i)
  | 0, _ => by rw [List.take_zero, sortE_id List.Pairwise.nil]; rfl
  | i + 1, h => by
    rw [insTo, insTo_is (i := i) (by omega), take_get' h]
    refine (sortE_is (insI_perm.trans ?_) (insI_up ltE_as ltE_nt (sortE_up _))).symm
    exact ((sortE_perm _).cons _).trans (List.perm_append_singleton _ _).symm
theorem insTo_len {l : List Ent} : ∀ {i : Nat}, (insTo l i).length = i
  | 0 => rfl
  | i + 1 => by rw [insTo, insI_len, insTo_len]
/-- a dot put where it stands, if it may be, and is not there -/
def insD (l : List Dot) (d : Dot) : List Dot := if dotF d = false ∨ d ∈ l then l else insI ltD d l
def ofTo (l : List Dot) : Nat → List Dot
  | 0 => []
  | i + 1 => insD (ofTo l i) (l.getD i default)
theorem ofTo_len {l : List Dot} : ∀ {i : Nat}, (ofTo l i).length ≤ i
  | 0 => Nat.le_refl _
  | i + 1 => by
    have := @ofTo_len l i
    rw [ofTo, insD]
    split
    · omega
    · rw [insI_len]; omega
theorem ofTo_is {l : List Dot} : ∀ {i : Nat}, i ≤ l.length → (ofTo l i).Pairwise ltD ∧ ∀ x, x ∈ ofTo l i ↔ x ∈ l.take i ∧ dotF x = true
  | 0, _ => ⟨List.Pairwise.nil, fun x => by simp [ofTo]⟩
  | i + 1, h => by
    obtain ⟨h1, h2⟩ := @ofTo_is l i (by omega)
    rw [ofTo, insD, take_get' h]
    generalize l.getD i default = d at *
    split
    · rename_i hd
      refine ⟨h1, fun x => ?_⟩
      rw [h2, List.mem_append, List.mem_singleton]
      refine ⟨fun k => ⟨.inl k.1, k.2⟩, fun k => ⟨k.1.elim id fun e => ?_, k.2⟩⟩
      subst e
      rcases hd with hd | hd
      · rw [hd] at k; exact absurd k.2 (by simp)
      · exact ((h2 x).1 hd).1
    · rename_i hd
      have hd1 : dotF d = true := by cases hh : dotF d <;> simp_all
      have hd2 : d ∉ ofTo l i := fun k => hd (.inr k)
      refine ⟨insI_sup ltD_tot ltD_tr h1 hd2, fun x => ?_⟩
      rw [insI_mem, h2, List.mem_append, List.mem_singleton]
      refine ⟨fun k => k.elim (fun e => ⟨.inr e, by rw [e]; exact hd1⟩) fun k => ⟨.inl k.1, k.2⟩, fun k => k.1.elim (fun e => .inr ⟨e, k.2⟩) .inl⟩
/-- dots as a set: all of them, and rising -/
def setF (l : List Dot) : List Dot := comp (sortD (l.filter dotF))
theorem setF_up (l : List Dot) : (setF l).Pairwise ltD := comp_up (fun x y h => by
  by_cases k : ltD x y
  · exact .inr k
  · exact .inl (ltD_tot _ _ k h)) ltD_tr (sortD_up _)
theorem setF_mem {l : List Dot} {x : Dot} : x ∈ setF l ↔ x ∈ l ∧ dotF x = true := by rw [setF, mem_comp, (sortD_perm _).mem_iff, List.mem_filter]
theorem setF_of (l : List Dot) : ofTo l l.length = setF l := by
  obtain ⟨h1, h2⟩ := @ofTo_is l l.length (Nat.le_refl _)
  refine up_ext ltD_ir ltD_tr h1 (setF_up l) fun x => ?_
  rw [h2, setF_mem, List.take_length]
theorem setF_len (l : List Dot) : (setF l).length ≤ l.length := Nat.le_trans (comp_len _) (by rw [sortD_len]; exact List.length_filter_le _ _)
theorem dotsOf_is (l : List Dot) : G.dotsOf l = (setF l).take 2000 := rfl
theorem setF_ext {l m : List Dot} (h : ∀ x, dotF x = true → (x ∈ l ↔ x ∈ m)) : setF l = setF m :=
  up_ext ltD_ir ltD_tr (setF_up l) (setF_up m) fun x => by
    rw [setF_mem, setF_mem]
    exact ⟨fun k => ⟨(h x k.2).1 k.1, k.2⟩, fun k => ⟨(h x k.2).2 k.1, k.2⟩⟩
theorem setF_id {l : List Dot} (h : l.Pairwise ltD) (hd : ∀ d ∈ l, dotF d = true) : setF l = l :=
  up_ext ltD_ir ltD_tr (setF_up l) h fun x => by rw [setF_mem]; exact ⟨fun k => k.1, fun k => ⟨k, hd x k⟩⟩
/-- as many as they are: no one twice -/
theorem setF_full {l : List Dot} (hd : ∀ d ∈ l, dotF d = true) : (setF l).length = l.length ↔ l.Nodup := by
  have e : l.filter dotF = l := List.filter_eq_self.2 hd
  rw [setF, e]
  constructor
  · intro h
    have h1 := comp_sub.eq_of_length (l₁ := comp (sortD l)) (by rw [h, sortD_len])
    have h2 := setF_up l
    rw [setF, e, h1] at h2
    refine (sortD_perm l).nodup_iff.1 (h2.imp fun {a b} k q => ?_)
    subst q; exact ltD_ir _ k
  · intro h
    rw [comp_id ((sortD_perm l).nodup_iff.2 h), sortD_len]
/-! which carts may be -/
theorem okTo_iff {v : List Int} {l : List Ent} : ∀ (n k : Nat), okTo v l k n = true ↔ ∀ i, k ≤ i → i < k + n → rowOk v l i = true
  | 0, k => ⟨fun _ i h1 h2 => by omega, fun _ => rfl⟩
  | n + 1, k => by
    rw [okTo, Bool.and_eq_true, okTo_iff n (k + 1)]
    refine ⟨fun h i h1 h2 => ?_, fun h => ⟨h k (by omega) (by omega), fun i h1 h2 => h i (by omega) (by omega)⟩⟩
    by_cases e : i = k
    · rw [e]; exact h.1
    · exact h.2 i (by omega) (by omega)
theorem has_dot {v : List Int} {d : Dot} (h : hasF v d = true) : dotF d = true := by
  unfold hasF at h; simp only [Bool.and_eq_true] at h; exact h.1
theorem row_ent {v : List Int} {l : List Ent} {i : Nat} (h : rowOk v l i = true) : entF (l.getD i default) = true ∧ hasF v (dotE (l.getD i default)) = true ∧ (0 < i → ltE (l.getD (i - 1) default) (l.getD i default)) := by
  unfold rowOk at h
  simp only [Bool.and_eq_true, Bool.or_eq_true, decide_eq_true_eq] at h
  exact ⟨h.1.1, h.1.2, fun k => ordE_lt.1 (h.2.resolve_left (by omega))⟩
theorem getD_mem {α : Type} [Inhabited α] {l : List α} {x : α} (h : x ∈ l) : ∃ i, i < l.length ∧ l.getD i default = x := by
  obtain ⟨i, hi, e⟩ := List.getElem_of_mem h
  exact ⟨i, hi, by rw [List.getD_eq_getElem?_getD, List.getElem?_eq_getElem hi]; exact e⟩
theorem live_set (l : List Ent) (h : l.length ≤ 2000) : liveF l = setF (l.map dotE) := by
  rw [liveF, dotsOf_is, List.take_of_length_le]
  exact Nat.le_trans (setF_len _) (by rw [List.length_map]; exact h)
theorem rightF_iff {v : List Int} {l : List Ent} : rightF v l = true ↔ l.length ≤ 400 ∧ (∀ i, i < l.length → rowOk v l i = true) ∧ (l.map dotE).Nodup := by
  unfold rightF
  simp only [Bool.and_eq_true, decide_eq_true_eq, okTo_iff]
  refine and_congr_right fun h4 => ?_
  constructor
  · rintro ⟨h1, h2⟩
    have h1' : ∀ i, i < l.length → rowOk v l i = true := fun i hi => h1 i (Nat.zero_le _) (by omega)
    refine ⟨h1', (setF_full fun d hd => ?_).1 (by rw [← live_set l (by omega), h2, List.length_map])⟩
    obtain ⟨e, he, rfl⟩ := List.mem_map.1 hd
    obtain ⟨i, hi, rfl⟩ := getD_mem he
    exact has_dot (row_ent (h1' i hi)).2.1
  · rintro ⟨h1, h2⟩
    refine ⟨fun i _ hi => h1 i (by omega), ?_⟩
    rw [live_set l (by omega), (setF_full fun d hd => ?_).2 h2, List.length_map]
    obtain ⟨e, he, rfl⟩ := List.mem_map.1 hd
    obtain ⟨i, hi, rfl⟩ := getD_mem he
    exact has_dot (row_ent (h1 i hi)).2.1
/-! values -/
theorem valTo_last {l : List Ent} : ∀ {i : Nat}, 0 < i → valTo l i ≠ [] ∧ ((valTo l i).getD ((valTo l i).length - 1) default).1 = ((sortE l).getD (i - 1) default).1
  | i + 1, _ => by
    rw [valTo]
    split
    · rename_i h; exact h
    · refine ⟨by simp, ?_⟩
      simp
/-- the next line, as the reference tells it -/
theorem valTo_next {l : List Ent} {i : Nat} : valTo l (i + 1) = if i = 0 ∨ ((sortE l).getD (i - 1) default).1 ≠ ((sortE l).getD i default).1 then valTo l i ++ [(((sortE l).getD i default).1, getQ l ((sortE l).getD i default).1)] else valTo l i := by
  rw [valTo]
  by_cases h0 : i = 0
  · subst h0
    rw [if_neg (fun k => k.1 rfl), if_pos (.inl rfl)]
  · obtain ⟨h1, h2⟩ := @valTo_last l i (by omega)
    by_cases h : ((sortE l).getD (i - 1) default).1 = ((sortE l).getD i default).1
    · rw [if_pos ⟨h1, by rw [h2, h]⟩, if_neg (fun k => k.elim h0 fun q => q h)]
    · rw [if_neg (fun k => h (by rw [← h2, k.2])), if_pos (.inr h)]
end Go.Proofs.Ytacofbbclmbbeaa.Ca
