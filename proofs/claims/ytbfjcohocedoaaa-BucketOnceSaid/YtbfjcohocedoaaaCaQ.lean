/- carts in plain Lean: entries in order, sets of dots, values: in two ways // carts in plain Lean: which may be, once more; joins // carts in plain Lean: what they are worth -/
import Derived.Test.YtbfjcohocedoaaaCaM
import Derived.Test.YtbfjcohocedoaaaCaK
import Derived.Test.YtbfjcohocedoaaaCaN
namespace Go.Proofs.Ytbfjcohocedoaaa.Ca
open Go Go.RowKit Go.Aw Go.Aw.Cart Go.Aw.Ord Go.Sort
set_option linter.unusedVariables false
set_option linter.unusedSimpArgs false
theorem ltE_ir (a : Ent) : ¬ ltE a a := by unfold ltE; omega
theorem ltE_tr (a b c : Ent) : ltE a b → ltE b c → ltE a c := by unfold ltE; omega
theorem ltE_as (a b : Ent) : ltE a b → ¬ ltE b a := by unfold ltE; omega
theorem ltE_nt (a b c : Ent) : ¬ ltE a b → ¬ ltE b c → ¬ ltE a c := by unfold ltE; omega
theorem ltE_tot (a b : Ent) (h : ¬ ltE a b) (k : ¬ ltE b a) : a = b := totE a b (by rw [ltE_of]; exact decide_eq_false h) (by rw [ltE_of]; exact decide_eq_false k)
theorem ltD_ir (a : Dot) : ¬ ltD a a := by unfold ltD; omega
theorem ltD_tr (a b c : Dot) : ltD a b → ltD b c → ltD a c := by unfold ltD; omega
theorem ltD_as (a b : Dot) : ltD a b → ¬ ltD b a := by unfold ltD; omega
theorem ltD_nt (a b c : Dot) : ¬ ltD a b → ¬ ltD b c → ¬ ltD a c := by unfold ltD; omega
theorem ltD_tot (a b : Dot) (h : ¬ ltD a b) (k : ¬ ltD b a) : a = b := totD a b (by rw [ltD_of]; exact decide_eq_false h) (by rw [ltD_of]; exact decide_eq_false k)
theorem sortE_perm (l : List Ent) : (sortE l).Perm l := List.mergeSort_perm ..
theorem sortD_perm (l : List Dot) : (sortD l).Perm l := List.mergeSort_perm ..
theorem sortE_up (l : List Ent) : upI ltE (sortE l) := by
  have h := List.pairwise_mergeSort (le := fun x y => !(ltOf ordE) y x) (fun a b c h k => ?_) (fun a b => ?_) l
  · refine List.Pairwise.imp (fun {a b} h => ?_) h
    simpa [ltE_of] using h
  · simp only [ltE_of, Bool.not_eq_true', decide_eq_false_iff_not] at h k ⊢
    exact ltE_nt _ _ _ k h
  · simp only [ltE_of, Bool.or_eq_true, Bool.not_eq_true', decide_eq_false_iff_not]
    by_cases k : ltE b a
    · exact .inr (ltE_as _ _ k)
    · exact .inl k
theorem sortD_up (l : List Dot) : upI ltD (sortD l) := by
  have h := List.pairwise_mergeSort (le := fun x y => !(ltOf cmpD) y x) (fun a b c h k => ?_) (fun a b => ?_) l
  · refine List.Pairwise.imp (fun {a b} h => ?_) h
    simpa [ltD_of] using h
  · simp only [ltD_of, Bool.not_eq_true', decide_eq_false_iff_not] at h k ⊢
    exact ltD_nt _ _ _ k h
  · simp only [ltD_of, Bool.or_eq_true, Bool.not_eq_true', decide_eq_false_iff_not]
    by_cases k : ltD b a
    · exact .inr (ltD_as _ _ k)
    · exact .inl k
theorem sortE_is {l m : List Ent} (h : m.Perm l) (hm : upI ltE m) : sortE l = m := up_uniq ltE_tot ((sortE_perm l).trans h.symm) (sortE_up l) hm
theorem sortE_of {l m : List Ent} (h : l.Perm m) : sortE l = sortE m := sortE_is ((sortE_perm m).trans h.symm) (sortE_up m)
theorem sortE_id {l : List Ent} (h : upI ltE l) : sortE l = l := sortE_is (.refl _) h
theorem sortE_mem {l : List Ent} {e : Ent} : e ∈ sortE l ↔ e ∈ l := (sortE_perm l).mem_iff
/-- one by one -/
def insTo (l : List Ent) : Nat → List Ent
  | 0 => []
  | i + 1 => insI ltE (l.getD i default) (insTo l i)
theorem take_get' {α : Type} [Inhabited α] {l : List α} {i : Nat} (h : i < l.length) : l.take (i + 1) = l.take i ++ [l.getD i default] := by
  rw [List.getD_eq_getElem?_getD, List.getElem?_eq_getElem h]; exact List.take_succ_eq_append_getElem h
theorem insTo_is {l : List Ent} : ∀ {i : Nat}, i ≤ l.length → insTo l i = sortE (l.take i)
  | 0, _ => by rw [List.take_zero, sortE_id List.Pairwise.nil]; rfl
  | i + 1, h => by
    rw [insTo, insTo_is (i := i) (by omega), take_get' h]
    refine (sortE_is (insI_perm.trans ?_) (insI_up ltE_as ltE_nt (sortE_up _))).symm
    exact ((sortE_perm _).cons _).trans (List.perm_append_singleton _ _).symm
theorem insTo_len {l : List Ent} : ∀ {i : Nat}, (insTo l i).length = i
  | 0 => rfl
  | i + 1 => by rw [insTo, insI_len, insTo_len]
/-- a dot put where it stands, if it may be, and is not there -/
def insD (l : List Dot) (d : Dot) : List Dot := if dotF d = false ∨ d ∈ l then l else insI ltD d l
def ofTo (l : List Dot) : Nat → List Dot
  | 0 => []
  | i + 1 => insD (ofTo l i) (l.getD i default)
theorem ofTo_len {l : List Dot} : ∀ {i : Nat}, (ofTo l i).length ≤ i
  | 0 => Nat.le_refl _
  | i + 1 => by
    have := @ofTo_len l i
    rw [ofTo, insD]
    split
    · omega
    · rw [insI_len]; omega
theorem ofTo_is {l : List Dot} : ∀ {i : Nat}, i ≤ l.length → (ofTo l i).Pairwise ltD ∧ ∀ x, x ∈ ofTo l i ↔ x ∈ l.take i ∧ dotF x = true
  | 0, _ => ⟨List.Pairwise.nil, fun x => by simp [ofTo]⟩
  | i + 1, h => by
    obtain ⟨h1, h2⟩ := @ofTo_is l i (by omega)
    rw [ofTo, insD, take_get' h]
    generalize l.getD i default = d at *
    split
    · rename_i hd
      refine ⟨h1, fun x => ?_⟩
      rw [h2, List.mem_append, List.mem_singleton]
      refine ⟨fun k => ⟨.inl k.1, k.2⟩, fun k => ⟨k.1.elim id fun e => ?_, k.2⟩⟩
      subst e
      rcases hd with hd | hd
      · rw [hd] at k; exact absurd k.2 (by simp)
      · exact ((h2 x).1 hd).1
    · rename_i hd
      have hd1 : dotF d = true := by cases hh : dotF d <;> simp_all
      have hd2 : d ∉ ofTo l i := fun k => hd (.inr k)
      refine ⟨insI_sup ltD_tot ltD_tr h1 hd2, fun x => ?_⟩
      rw [insI_mem, h2, List.mem_append, List.mem_singleton]
      refine ⟨fun k => k.elim (fun e => ⟨.inr e, by rw [e]; exact hd1⟩) fun k => ⟨.inl k.1, k.2⟩, fun k => k.1.elim (fun e => .inr ⟨e, k.2⟩) .inl⟩
/-- dots as a set: all of them, and rising -/
def setF (l : List Dot) : List Dot := comp (sortD (l.filter dotF))
theorem setF_up (l : List Dot) : (setF l).Pairwise ltD := comp_up (fun x y h => by
  by_cases k : ltD x y
  · exact .inr k
  · exact .inl (ltD_tot _ _ k h)) ltD_tr (sortD_up _)
theorem setF_mem {l : List Dot} {x : Dot} : x ∈ setF l ↔ x ∈ l ∧ dotF x = true := by rw [setF, mem_comp, (sortD_perm _).mem_iff, List.mem_filter]
theorem setF_of (l : List Dot) : ofTo l l.length = setF l := by
  obtain ⟨h1, h2⟩ := @ofTo_is l l.length (Nat.le_refl _)
  refine up_ext ltD_ir ltD_tr h1 (setF_up l) fun x => ?_
  rw [h2, setF_mem, List.take_length]
theorem setF_len (l : List Dot) : (setF l).length ≤ l.length := Nat.le_trans (comp_len _) (by rw [sortD_len]; exact List.length_filter_le _ _)
theorem dotsOf_is (l : List Dot) : G.dotsOf l = (setF l).take 2000 := rfl
theorem setF_ext {l m : List Dot} (h : ∀ x, dotF x = true → (x ∈ l ↔ x ∈ m)) : setF l = setF m :=
  up_ext ltD_ir ltD_tr (setF_up l) (setF_up m) fun x => by
    rw [setF_mem, setF_mem]
    exact ⟨fun k => ⟨(h x k.2).1 k.1, k.2⟩, fun k => ⟨(h x k.2).2 k.1, k.2⟩⟩
theorem setF_id {l : List Dot} (h : l.Pairwise ltD) (hd : ∀ d ∈ l, dotF d = true) : setF l = l :=
  up_ext ltD_ir ltD_tr (setF_up l) h fun x => by rw [setF_mem]; exact ⟨fun k => k.1, fun k => ⟨k, hd x k⟩⟩
/-- as many as they are: no one twice -/
theorem setF_full {l : List Dot} (hd : ∀ d ∈ l, dotF d = true) : (setF l).length = l.length ↔ l.Nodup := by
  have e : l.filter dotF = l := List.filter_eq_self.2 hd
  rw [setF, e]
  constructor
  · intro h
    have h1 := comp_sub.eq_of_length (l₁ := comp (sortD l)) (by rw [h, sortD_len])
    have h2 := setF_up l
    rw [setF, e, h1] at h2
    refine (sortD_perm l).nodup_iff.1 (h2.imp fun {a b} k q => ?_)
    subst q; exact ltD_ir _ k
  · intro h
    rw [comp_id ((sortD_perm l).nodup_iff.2 h), sortD_len]
/-! which carts may be -/
theorem okTo_iff {v : List Int} {l : List Ent} : ∀ (n k : Nat), okTo v l k n = true ↔ ∀ i, k ≤ i → i < k + n → rowOk v l i = true
  | 0, k => ⟨fun _ i h1 h2 => by omega, fun _ => rfl⟩
  | n + 1, k => by
    rw [okTo, Bool.and_eq_true, okTo_iff n (k + 1)]
    refine ⟨fun h i h1 h2 => ?_, fun h => ⟨h k (by omega) (by omega), fun i h1 h2 => h i (by omega) (by omega)⟩⟩
    by_cases e : i = k
    · rw [e]; exact h.1
    · exact h.2 i (by omega) (by omega)
theorem has_dot {v : List Int} {d : Dot} (h : hasF v d = true) : dotF d = true := by
  unfold hasF at h; simp only [Bool.and_eq_true] at h; exact h.1
theorem row_ent {v : List Int} {l : List Ent} {i : Nat} (h : rowOk v l i = true) : entF (l.getD i default) = true ∧ hasF v (dotE (l.getD i default)) = true ∧ (0 < i → ltE (l.getD (i - 1) default) (l.getD i default)) := by
  unfold rowOk at h
  simp only [Bool.and_eq_true, Bool.or_eq_true, decide_eq_true_eq] at h
  exact ⟨h.1.1, h.1.2, fun k => ordE_lt.1 (h.2.resolve_left (by omega))⟩
theorem getD_mem {α : Type} [Inhabited α] {l : List α} {x : α} (h : x ∈ l) : ∃ i, i < l.length ∧ l.getD i default = x := by
  obtain ⟨i, hi, e⟩ := List.getElem_of_mem h
  exact ⟨i, hi, by rw [List.getD_eq_getElem?_getD, List.getElem?_eq_getElem hi]; exact e⟩
theorem live_set (l : List Ent) (h : l.length ≤ 2000) : liveF l = setF (l.map dotE) := by
  rw [liveF, dotsOf_is, List.take_of_length_le]
  exact Nat.le_trans (setF_len _) (by rw [List.length_map]; exact h)
theorem rightF_iff {v : List Int} {l : List Ent} : rightF v l = true ↔ l.length ≤ 400 ∧ (∀ i, i < l.length → rowOk v l i = true) ∧ (l.map dotE).Nodup := by
  unfold rightF
  simp only [Bool.and_eq_true, decide_eq_true_eq, okTo_iff]
  refine and_congr_right fun h4 => ?_
  constructor
  · rintro ⟨h1, h2⟩
    have h1' : ∀ i, i < l.length → rowOk v l i = true := fun i hi => h1 i (Nat.zero_le _) (by omega)
    refine ⟨h1', (setF_full fun d hd => ?_).1 (by rw [← live_set l (by omega), h2, List.length_map])⟩
    obtain ⟨e, he, rfl⟩ := List.mem_map.1 hd
    obtain ⟨i, hi, rfl⟩ := getD_mem he
    exact has_dot (row_ent (h1' i hi)).2.1
  · rintro ⟨h1, h2⟩
    refine ⟨fun i _ hi => h1 i (by omega), ?_⟩
    rw [live_set l (by omega), (setF_full fun d hd => ?_).2 h2, List.length_map]
    obtain ⟨e, he, rfl⟩ := List.mem_map.1 hd
    obtain ⟨i, hi, rfl⟩ := getD_mem he
    exact has_dot (row_ent (h1 i hi)).2.1
/-! values -/
theorem valTo_last {l : List Ent} : ∀ {i : Nat}, 0 < i → valTo l i ≠ [] ∧ ((valTo l i).getD ((valTo l i).length - 1) default).1 = ((sortE l).getD (i - 1) default).1
  | i + 1, _ => by
    rw [valTo]
    split
    · rename_i h; exact h
    · refine ⟨by simp, ?_⟩
      simp
/-- the next line, as the reference tells it -/
theorem valTo_next {l : List Ent} {i : Nat} : valTo l (i + 1) = if i = 0 ∨ ((sortE l).getD (i - 1) default).1 ≠ ((sortE l).getD i default).1 then valTo l i ++ [(((sortE l).getD i default).1, getQ l ((sortE l).getD i default).1)] else valTo l i := by
  rw [valTo]
  by_cases h0 : i = 0
  · subst h0
    rw [if_neg (fun k => k.1 rfl), if_pos (.inl rfl)]
  · obtain ⟨h1, h2⟩ := @valTo_last l i (by omega)
    by_cases h : ((sortE l).getD (i - 1) default).1 = ((sortE l).getD i default).1
    · rw [if_pos ⟨h1, by rw [h2, h]⟩, if_neg (fun k => k.elim h0 fun q => q h)]
    · rw [if_neg (fun k => h (by rw [← h2, k.2])), if_pos (.inr h)]
end Go.Proofs.Ytbfjcohocedoaaa.Ca
namespace Go.Proofs.Ytbfjcohocedoaaa.Ca
open Go Go.RowKit Go.Aw Go.Aw.Cart Go.Aw.Ord Go.Sort
set_option linter.unusedVariables false
set_option linter.unusedSimpArgs false
theorem getD_at {α : Type} [Inhabited α] {l : List α} {i : Nat} (h : i < l.length) : l.getD i default = l[i] := by
  rw [List.getD_eq_getElem?_getD, List.getElem?_eq_getElem h]; rfl
theorem adj_up {l : List Ent} (h : ∀ i, 0 < i → i < l.length → ltE (l.getD (i - 1) default) (l.getD i default)) : l.Pairwise ltE := by
  have key : ∀ j, j < l.length → ∀ i, i < j → ltE (l.getD i default) (l.getD j default) := by
    intro j
    induction j with
    | zero => intro _ i hi; exact absurd hi (Nat.not_lt_zero _)
    | succ j ih =>
      intro hj i hi
      have h1 := h (j + 1) (Nat.succ_pos _) hj
      rw [Nat.add_sub_cancel] at h1
      by_cases e : i = j
      · rw [e]; exact h1
      · exact ltE_tr _ _ _ (ih (by omega) i (by omega)) h1
  refine List.pairwise_iff_getElem.2 fun i j hi hj hij => ?_
  have := key j hj i hij
  rwa [getD_at hi, getD_at hj] at this
theorem up_adj {l : List Ent} (h : l.Pairwise ltE) {i : Nat} (h0 : 0 < i) (hi : i < l.length) : ltE (l.getD (i - 1) default) (l.getD i default) := by
  have := List.pairwise_iff_getElem.1 h (i - 1) i (by omega) hi (by omega)
  rwa [getD_at hi, getD_at (show i - 1 < l.length by omega)]
/-- of things that are unlike, images are so just if no two have one -/
theorem nodup_map {α β : Type} {f : α → β} : ∀ {l : List α}, l.Nodup → ((l.map f).Nodup ↔ ∀ x ∈ l, ∀ y ∈ l, f x = f y → x = y)
  | [], _ => by simp
  | a :: l, h => by
    obtain ⟨h1, h2⟩ := List.nodup_cons.1 h
    rw [List.map_cons, List.nodup_cons, nodup_map h2]
    constructor
    · rintro ⟨k1, k2⟩ x hx y hy e
      rcases List.mem_cons.1 hx with q | q <;> rcases List.mem_cons.1 hy with r | r
      · rw [q, r]
      · exact absurd (List.mem_map.2 ⟨y, r, by rw [← e, q]⟩) k1
      · exact absurd (List.mem_map.2 ⟨x, q, by rw [e, r]⟩) k1
      · exact k2 x q y r e
    · intro k
      refine ⟨fun q => ?_, fun x hx y hy => k x (List.mem_cons_of_mem _ hx) y (List.mem_cons_of_mem _ hy)⟩
      obtain ⟨y, hy, e⟩ := List.mem_map.1 q
      rw [k y (List.mem_cons_of_mem _ hy) a List.mem_cons_self e] at hy
      exact h1 hy
theorem up_nodup {l : List Ent} (h : l.Pairwise ltE) : l.Nodup := h.imp fun {a b} k e => by subst e; exact ltE_ir _ k
/-- a cart that may be -/
structure Ok (v : List Int) (l : List Ent) : Prop where
  few : l.length ≤ 400
  up : l.Pairwise ltE
  ent : ∀ e ∈ l, entF e = true
  has : ∀ e ∈ l, hasF v (dotE e) = true
  one : ∀ e ∈ l, ∀ f ∈ l, dotE e = dotE f → e = f
theorem ok_iff {v : List Int} {l : List Ent} : rightF v l = true ↔ Ok v l := by
  rw [rightF_iff]
  constructor
  · rintro ⟨h1, h2, h3⟩
    have hu : l.Pairwise ltE := adj_up fun i h0 hi => (row_ent (h2 i hi)).2.2 h0
    refine ⟨h1, hu, fun e he => ?_, fun e he => ?_, (nodup_map (up_nodup hu)).1 h3⟩
    · obtain ⟨i, hi, rfl⟩ := getD_mem he; exact (row_ent (h2 i hi)).1
    · obtain ⟨i, hi, rfl⟩ := getD_mem he; exact (row_ent (h2 i hi)).2.1
  · intro h
    refine ⟨h.few, fun i hi => ?_, (nodup_map (up_nodup h.up)).2 h.one⟩
    have hm : l.getD i default ∈ l := by rw [getD_at hi]; exact List.getElem_mem _
    unfold rowOk
    simp only [Bool.and_eq_true, Bool.or_eq_true, decide_eq_true_eq]
    refine ⟨⟨h.ent _ hm, h.has _ hm⟩, ?_⟩
    by_cases h0 : i = 0
    · exact .inl h0
    · exact .inr (ordE_lt.2 (up_adj h.up (by omega) hi))
theorem Ok.upI {v : List Int} {l : List Ent} (h : Ok v l) : upI ltE l := h.up.imp fun {a b} k => ltE_as _ _ k
theorem Ok.dot {v : List Int} {l : List Ent} (h : Ok v l) {e : Ent} (he : e ∈ l) : dotF (dotE e) = true := has_dot (h.has e he)
theorem Ok.live {v : List Int} {l : List Ent} (h : Ok v l) {d : Dot} : d ∈ liveF l ↔ d ∈ l.map dotE := by
  rw [live_set l (by have := h.few; omega), setF_mem]
  refine ⟨fun k => k.1, fun k => ⟨k, ?_⟩⟩
  obtain ⟨e, he, rfl⟩ := List.mem_map.1 k
  exact h.dot he
/-- rising lists of the same entries are one -/
theorem ent_ext {l m : List Ent} (hl : l.Pairwise ltE) (hm : m.Pairwise ltE) (h : ∀ e, e ∈ l ↔ e ∈ m) : l = m := up_ext ltE_ir ltE_tr hl hm h
theorem sortE_sup {l : List Ent} (h : l.Nodup) : (sortE l).Pairwise ltE := by
  have h1 : (sortE l).Pairwise fun a b => a ≠ b := (sortE_perm l).nodup_iff.2 h
  refine List.Pairwise.imp (fun {a b} (k : ¬ ltE b a ∧ a ≠ b) => ?_) ((sortE_up l).and h1)
  by_cases q : ltE a b
  · exact q
  · exact absurd (ltE_tot _ _ q k.1) k.2
/-! joins -/
abbrev Crt := List Int × List Ent
def staysF (a b : Crt) (both : Bool) : List Ent := a.2.filter fun e => (both && decide (e ∈ b.2)) || !hasF b.1 (dotE e)
def clashF (a b : Crt) : Bool := a.2.any fun e => b.2.any fun f => decide (e ≠ f) && decide (dotE e = dotE f)
def maxV (a b : List Int) : List Int := List.zipWith (fun x y => if x < y then y else x) a b
def zeroV : List Int := [0, 0, 0, 0, 0, 0, 0, 0]
def bothF (a b : Crt) : List Ent := staysF a b true ++ staysF b a false
/-- the join of two carts, and the error -/
def twoF (a b : Crt) : Crt × Int :=
  if rightF a.1 a.2 = false ∨ rightF b.1 b.2 = false then ((zeroV, []), 3) else
  if clashF a b = true then ((zeroV, []), 14) else
  if 400 < (bothF a b).length then ((zeroV, []), 5) else
  ((maxV a.1 b.1, sortE (bothF a b)), 0)
def allF (l : List Crt) : Nat → Crt × Int
  | 0 => ((zeroV, []), 0)
  | i + 1 => if (allF l i).2 = 0 then (if (twoF (allF l i).1 (l.getD i default)).2 = 0 then twoF (allF l i).1 (l.getD i default) else ((zeroV, []), (twoF (allF l i).1 (l.getD i default)).2)) else allF l i
def coversF (a b : Crt) : Bool := decide ((twoF a b).2 = 0) && (decide ((twoF a b).1.1 = a.1) && decide ((twoF a b).1.2 = a.2))
theorem both_mem {a b : Crt} {e : Ent} : e ∈ bothF a b ↔ (e ∈ a.2 ∧ (e ∈ b.2 ∨ hasF b.1 (dotE e) = false)) ∨ (e ∈ b.2 ∧ hasF a.1 (dotE e) = false) := by
  unfold bothF staysF
  simp [List.mem_append, List.mem_filter]
theorem clash_not {a b : Crt} (h : clashF a b = false) : ∀ e ∈ a.2, ∀ f ∈ b.2, dotE e = dotE f → e = f := by
  intro e he f hf hd
  by_cases k : e = f
  · exact k
  · unfold clashF at h
    rw [List.any_eq_false] at h
    have h1 := h e he
    rw [Bool.not_eq_true, List.any_eq_false] at h1
    have h2 := h1 f hf
    simp [k, hd] at h2
theorem clash_of {a b : Crt} (h : ∀ e ∈ a.2, ∀ f ∈ b.2, dotE e = dotE f → e = f) : clashF a b = false := by
  unfold clashF
  rw [List.any_eq_false]
  intro e he
  rw [Bool.not_eq_true, List.any_eq_false]
  intro f hf
  simp only [Bool.not_eq_true, Bool.and_eq_false_iff, decide_eq_false_iff_not]
  by_cases k : dotE e = dotE f
  · exact .inl fun q => q (h e he f hf k)
  · exact .inr k
theorem maxV_len {a b : List Int} (ha : a.length = 8) (hb : b.length = 8) : (maxV a b).length = 8 := by simp [maxV, ha, hb]
theorem maxV_get {a b : List Int} (ha : a.length = 8) (hb : b.length = 8) {i : Nat} (hi : i < 8) : (maxV a b).getD i default = if a.getD i default < b.getD i default then b.getD i default else a.getD i default := by
  rw [getD_at (by rw [maxV_len ha hb]; exact hi), getD_at (by omega), getD_at (by omega)]
  simp [maxV]
theorem getF_max {a b : List Int} (ha : a.length = 8) (hb : b.length = 8) (n : Int) : getF (maxV a b) n = if getF a n < getF b n then getF b n else getF a n := by
  unfold getF
  by_cases h : 1 ≤ n ∧ n ≤ 8
  · rw [if_pos h, if_pos h, if_pos h, maxV_get ha hb (by omega)]
  · rw [if_neg h, if_neg h, if_neg h]; rfl
theorem has_max {a b : List Int} (ha : a.length = 8) (hb : b.length = 8) (d : Dot) : hasF (maxV a b) d = (hasF a d || hasF b d) := by
  unfold hasF
  rw [getF_max ha hb]
  cases dotF d with
  | false => rfl
  | true =>
    simp only [Bool.true_and]
    rw [Bool.eq_iff_iff, Bool.or_eq_true, decide_eq_true_eq, decide_eq_true_eq, decide_eq_true_eq]
    split <;> omega
theorem maxV_comm (a b : List Int) : maxV a b = maxV b a := by
  unfold maxV
  rw [List.zipWith_comm]
  congr 1
  funext x y
  split <;> split <;> omega
theorem maxV_self (a : List Int) : maxV a a = a := by
  unfold maxV
  rw [List.zipWith_self]
  simp
theorem maxV_ext {a b : List Int} (ha : a.length = 8) (hb : b.length = 8) (h : ∀ i, i < 8 → a.getD i default = b.getD i default) : a = b := by
  refine List.ext_getElem (by rw [ha, hb]) fun i h1 h2 => ?_
  have := h i (by omega)
  rwa [getD_at h1, getD_at h2] at this
theorem maxV_assoc {a b c : List Int} (ha : a.length = 8) (hb : b.length = 8) (hc : c.length = 8) : maxV (maxV a b) c = maxV a (maxV b c) := by
  refine maxV_ext (maxV_len (maxV_len ha hb) hc) (maxV_len ha (maxV_len hb hc)) fun i hi => ?_
  rw [maxV_get (maxV_len ha hb) hc hi, maxV_get ha hb hi, maxV_get ha (maxV_len hb hc) hi, maxV_get hb hc hi]
  repeat' split
  all_goals omega
theorem maxV_zero {a : List Int} (ha : a.length = 8) (h : ∀ n ∈ a, 0 ≤ n) : maxV zeroV a = a := by
  refine maxV_ext (maxV_len rfl ha) ha fun i hi => ?_
  rw [maxV_get rfl ha hi]
  have h0 : zeroV.getD i default = 0 := by
    match i, hi with
    | 0, _ | 1, _ | 2, _ | 3, _ | 4, _ | 5, _ | 6, _ | 7, _ => rfl
  have := h (a.getD i default) (by rw [getD_at (by omega)]; exact List.getElem_mem _)
  rw [h0]
  split <;> omega
/-- carts that have no dot in unlike entries: of them all the join is there -/
structure Two (a b : Crt) : Prop where
  la : a.1.length = 8
  lb : b.1.length = 8
  oa : Ok a.1 a.2
  ob : Ok b.1 b.2
  nc : ∀ e ∈ a.2, ∀ f ∈ b.2, dotE e = dotE f → e = f
  few : (bothF a b).length ≤ 400
theorem bothF_nodup {a b : Crt} (oa : Ok a.1 a.2) (ob : Ok b.1 b.2) : (bothF a b).Nodup := by
  unfold bothF
  refine List.nodup_append.2 ⟨(up_nodup oa.up).sublist List.filter_sublist, (up_nodup ob.up).sublist List.filter_sublist, fun x hx y hy e => ?_⟩
  subst e
  unfold staysF at hx hy
  have h1 := (List.mem_filter.1 hx).1
  have h2 := (List.mem_filter.1 hy).2
  rw [Bool.false_and, Bool.false_or, oa.has x h1] at h2
  exact absurd h2 (by simp)
theorem Two.is {a b : Crt} (h : Two a b) : twoF a b = ((maxV a.1 b.1, sortE (bothF a b)), 0) := by
  unfold twoF
  rw [ok_iff.2 h.oa, ok_iff.2 h.ob, if_neg (by simp), if_neg (by rw [clash_of h.nc]; simp), if_neg (by have := h.few; omega)]
theorem Two.mem {a b : Crt} (h : Two a b) {e : Ent} : e ∈ (twoF a b).1.2 ↔ (e ∈ a.2 ∧ (e ∈ b.2 ∨ hasF b.1 (dotE e) = false)) ∨ (e ∈ b.2 ∧ hasF a.1 (dotE e) = false) := by
  rw [h.is, sortE_mem, both_mem]
theorem Two.vec {a b : Crt} (h : Two a b) : (twoF a b).1.1 = maxV a.1 b.1 := by rw [h.is]
theorem Two.len {a b : Crt} (h : Two a b) : (twoF a b).1.1.length = 8 := by rw [h.vec]; exact maxV_len h.la h.lb
theorem Two.sub {a b : Crt} (h : Two a b) {e : Ent} (he : e ∈ (twoF a b).1.2) : e ∈ a.2 ∨ e ∈ b.2 := by
  rcases h.mem.1 he with k | k
  · exact .inl k.1
  · exact .inr k.1
theorem Two.ok {a b : Crt} (h : Two a b) : Ok (twoF a b).1.1 (twoF a b).1.2 := by
  have hs := @Two.sub a b h
  have hv := h.vec
  refine ⟨?_, ?_, fun e he => ?_, fun e he => ?_, fun e he f hf hd => ?_⟩
  · rw [h.is]; show (sortE _).length ≤ 400; rw [sortE_len]; exact h.few
  · rw [h.is]; exact sortE_sup (bothF_nodup h.oa h.ob)
  · exact (hs he).elim (h.oa.ent e) (h.ob.ent e)
  · rw [hv, has_max h.la h.lb, Bool.or_eq_true]
    exact (hs he).elim (fun k => .inl (h.oa.has e k)) (fun k => .inr (h.ob.has e k))
  · rcases hs he with k | k <;> rcases hs hf with q | q
    · exact h.oa.one e k f q hd
    · exact h.nc e k f q hd
    · exact (h.nc f q e k hd.symm).symm
    · exact h.ob.one e k f q hd
end Go.Proofs.Ytbfjcohocedoaaa.Ca
namespace Go.Proofs.Ytbfjcohocedoaaa.Ca
open Go Go.RowKit Go.Aw Go.Aw.Cart Go.Aw.Ord Go.Sort
set_option linter.unusedVariables false
set_option linter.unusedSimpArgs false
/-! the items, and their lines -/
def itemsF (l : List Ent) : List Int := comp ((sortE l).map (·.1))
theorem mapD {l : List Ent} {i : Nat} (h : i < l.length) : (l.map (·.1)).getD i default = (l.getD i default).1 := by
  rw [getD_at (by rw [List.length_map]; exact h), getD_at h, List.getElem_map]
theorem valTo_is {l : List Ent} : ∀ {i : Nat}, i ≤ (sortE l).length → valTo l i = (comp (((sortE l).map (·.1)).take i)).map fun x => (x, getQ l x)
  | 0, _ => rfl
  | i + 1, h => by
    have hi : i < ((sortE l).map (·.1)).length := by rw [List.length_map]; omega
    rw [valTo_next, valTo_is (i := i) (by omega)]
    by_cases h0 : i = 0
    · subst h0
      rw [if_pos (.inl rfl), comp_one, take_get' hi, mapD (by omega)]; rfl
    · rw [comp_take hi (by omega), mapD (by omega), mapD (by omega)]
      by_cases e : ((sortE l).getD (i - 1) default).1 = ((sortE l).getD i default).1
      · rw [if_neg (fun k => k.elim h0 fun q => q e), if_pos e.symm, List.append_nil]
      · rw [if_pos (.inr e), if_neg (fun k => e k.symm), List.map_append]; rfl
theorem valueF_is (l : List Ent) : valueF l = (itemsF l).map fun x => (x, getQ l x) := by
  rw [valueF, valTo_is (Nat.le_refl _), itemsF, List.take_of_length_le (by rw [List.length_map]; exact Nat.le_refl _)]
theorem items_up (l : List Ent) : (itemsF l).Pairwise (· < ·) := by
  refine comp_up (lt := fun a b : Int => a < b) (fun x y h => by omega) (fun a b c => Int.lt_trans) ?_
  refine List.Pairwise.map _ (fun a b h => ?_) (sortE_up l)
  unfold ltE at h
  omega
theorem items_mem {l : List Ent} {x : Int} : x ∈ itemsF l ↔ ∃ e ∈ l, e.1 = x := by
  rw [itemsF, mem_comp, List.mem_map]
  exact ⟨fun ⟨e, he, h⟩ => ⟨e, sortE_mem.1 he, h⟩, fun ⟨e, he, h⟩ => ⟨e, sortE_mem.2 he, h⟩⟩
theorem value_at {l : List Ent} {i : Nat} (h : i < (valueF l).length) : ∃ hi : i < (itemsF l).length, (valueF l).getD i default = ((itemsF l)[i], getQ l (itemsF l)[i]) := by
  have e := valueF_is l
  have hi : i < (itemsF l).length := by rw [e, List.length_map] at h; exact h
  refine ⟨hi, ?_⟩
  rw [getD_at h]
  simp [e]
/-- each line: its quantity is what Get tells -/
theorem value_q {l : List Ent} {i : Nat} (h : i < (valueF l).length) : ((valueF l).getD i default).2 = getQ l ((valueF l).getD i default).1 := by
  obtain ⟨hi, e⟩ := value_at h; rw [e]
theorem value_is {l : List Ent} {i : Nat} (h : i < (valueF l).length) : 0 < (ofF l ((valueF l).getD i default).1).length := by
  obtain ⟨hi, e⟩ := value_at h
  rw [e]
  obtain ⟨x, hx, hxe⟩ := items_mem.1 (List.getElem_mem hi)
  exact List.length_pos_of_mem (ofF_mem.2 ⟨hx, hxe⟩)
theorem value_rise {l : List Ent} {i : Nat} (h0 : 0 < i) (h : i < (valueF l).length) : ((valueF l).getD (i - 1) default).1 < ((valueF l).getD i default).1 := by
  obtain ⟨hi, e⟩ := value_at h
  obtain ⟨hj, e'⟩ := value_at (l := l) (i := i - 1) (by omega)
  rw [e, e']
  exact List.pairwise_iff_getElem.1 (items_up l) (i - 1) i hj hi (by omega)
theorem value_len (l : List Ent) : (valueF l).length ≤ l.length := by
  exact Nat.le_trans (valTo_len l (sortE l).length) (Nat.le_of_eq (sortE_len l))
/-! each entry counts for one item -/
def sumN : List Nat → Nat
  | [] => 0
  | n :: l => n + sumN l
theorem sumN_add {α : Type} {f g : α → Nat} : ∀ {l : List α}, sumN (l.map fun x => f x + g x) = sumN (l.map f) + sumN (l.map g)
  | [] => rfl
  | x :: l => by simp only [List.map_cons, sumN]; rw [sumN_add]; omega
theorem sumN_zero {α : Type} {f : α → Nat} : ∀ {l : List α}, (∀ x ∈ l, f x = 0) → sumN (l.map f) = 0
  | [], _ => rfl
  | x :: l, h => by simp only [List.map_cons, sumN]; rw [h x List.mem_cons_self, sumN_zero fun y hy => h y (List.mem_cons_of_mem _ hy)]
theorem sumN_one {a : Int} : ∀ {l : List Int}, l.Nodup → a ∈ l → sumN (l.map fun x => if a = x then 1 else 0) = 1
  | [], _, h => by cases h
  | x :: l, hn, h => by
    obtain ⟨h1, h2⟩ := List.nodup_cons.1 hn
    simp only [List.map_cons, sumN]
    by_cases e : a = x
    · rw [if_pos e, sumN_zero fun y hy => if_neg fun q => h1 (by rw [← e, q]; exact hy)]
    · rw [if_neg e, sumN_one h2 ((List.mem_cons.1 h).resolve_left e)]
theorem ofF_cons {e : Ent} {l : List Ent} {x : Int} : (ofF (e :: l) x).length = (ofF l x).length + if e.1 = x then 1 else 0 := by
  unfold ofF
  rw [List.filter_cons]
  by_cases h : e.1 = x <;> simp [h]
theorem count_all {xs : List Int} (h : xs.Nodup) : ∀ {l : List Ent}, (∀ e ∈ l, e.1 ∈ xs) → sumN (xs.map fun x => (ofF l x).length) = l.length
  | [], _ => sumN_zero fun x _ => rfl
  | e :: l, hl => by
    have e1 : (fun x => (ofF (e :: l) x).length) = fun x => (ofF l x).length + if e.1 = x then 1 else 0 := by funext x; exact ofF_cons
    rw [e1, sumN_add, count_all h fun y hy => hl y (List.mem_cons_of_mem _ hy), sumN_one h (hl e List.mem_cons_self), List.length_cons]
def cntTo (l : List Ent) (v : List Dot) : Nat → Int
  | 0 => 0
  | i + 1 => cntTo l v i + ((ofF l (v.getD i default).1).length : Int)
theorem sumN_snoc {n : Nat} : ∀ {l : List Nat}, sumN (l ++ [n]) = sumN l + n
  | [] => by simp [sumN]
  | x :: l => by simp only [List.cons_append, sumN]; rw [sumN_snoc]; omega
theorem cntTo_is {l : List Ent} {v : List Dot} : ∀ {i : Nat}, i ≤ v.length → cntTo l v i = ((sumN ((v.take i).map fun x => (ofF l x.1).length) : Nat) : Int)
  | 0, _ => rfl
  | i + 1, h => by
    rw [cntTo, cntTo_is (i := i) (by omega), take_get' (by omega), List.map_append, List.map_cons, List.map_nil, sumN_snoc]
    omega
theorem cntTo_in {l : List Ent} {v : List Dot} : ∀ {i : Nat}, 0 ≤ cntTo l v i ∧ cntTo l v i ≤ (i : Int) * (l.length : Int)
  | 0 => ⟨Int.le_refl _, by simp [cntTo]⟩
  | i + 1 => by
    obtain ⟨h1, h2⟩ := @cntTo_in l v i
    have := ofF_len l (v.getD i default).1
    rw [cntTo, Int.natCast_add, Int.add_mul]
    refine ⟨by omega, ?_⟩
    have e : ((1 : Nat) : Int) * (l.length : Int) = (l.length : Int) := by simp
    rw [e]; omega
theorem cnt_whole (l : List Ent) : cntTo l (valueF l) (valueF l).length = (l.length : Int) := by
  rw [cntTo_is (Nat.le_refl _), List.take_length, valueF_is, List.map_map]
  have e : ((fun x : Dot => (ofF l x.1).length) ∘ fun x => (x, getQ l x)) = fun x => (ofF l x).length := rfl
  rw [e, count_all ((items_up l).imp fun {a b} h => by omega) fun y hy => items_mem.2 ⟨y, hy, rfl⟩]
/-! the order does not matter -/
def upS : List Ent → Int
  | [] => 0
  | e :: l => (ofT e.2.2.2).1 + upS l
def dnS : List Ent → Int
  | [] => 0
  | e :: l => (ofT e.2.2.2).2 + dnS l
theorem ofT_pos (n : Int) : 0 ≤ (ofT n).1 ∧ 0 ≤ (ofT n).2 := by unfold ofT; split <;> (simp only; omega)
theorem upS_pos : ∀ l : List Ent, 0 ≤ upS l ∧ 0 ≤ dnS l
  | [] => ⟨Int.le_refl _, Int.le_refl _⟩
  | e :: l => by
    obtain ⟨h1, h2⟩ := ofT_pos e.2.2.2
    obtain ⟨h3, h4⟩ := upS_pos l
    exact ⟨by rw [upS]; omega, by rw [dnS]; omega⟩
theorem upS_snoc {e : Ent} : ∀ {l : List Ent}, upS (l ++ [e]) = upS l + (ofT e.2.2.2).1 ∧ dnS (l ++ [e]) = dnS l + (ofT e.2.2.2).2
  | [] => by simp [upS, dnS]
  | x :: l => by
    obtain ⟨h1, h2⟩ := @upS_snoc e l
    simp only [List.cons_append, upS, dnS]
    rw [h1, h2]; exact ⟨by omega, by omega⟩
theorem upS_perm {l m : List Ent} (h : l.Perm m) : upS l = upS m ∧ dnS l = dnS m := by
  induction h with
  | nil => exact ⟨rfl, rfl⟩
  | cons x _ ih => simp only [upS, dnS]; rw [ih.1, ih.2]; exact ⟨rfl, rfl⟩
  | swap x y l => simp only [upS, dnS]; exact ⟨by omega, by omega⟩
  | trans _ _ ih1 ih2 => exact ⟨ih1.1.trans ih2.1, ih1.2.trans ih2.2⟩
theorem more_mn {a b : Int} (ha : 0 ≤ a) (hb : 0 ≤ b) : moreF (mnF a) b = mnF (a + b) := by
  unfold moreF mnF
  repeat' split
  all_goals omega
theorem tTo_is {m : List Ent} : ∀ {i : Nat}, i ≤ m.length → tTo m i = (mnF (upS (m.take i)), mnF (dnS (m.take i)))
  | 0, _ => rfl
  | i + 1, h => by
    obtain ⟨h1, h2⟩ := upS_pos (m.take i)
    obtain ⟨h3, h4⟩ := ofT_pos (m.getD i default).2.2.2
    rw [tTo, tTo_is (i := i) (by omega), addF, plusF, more_mn h1 h3, more_mn h2 h4, take_get' (by omega), upS_snoc.1, upS_snoc.2]
theorem getQ_is (l : List Ent) (x : Int) : getQ l x = valF (mnF (upS (ofF l x)), mnF (dnS (ofF l x))) := by
  rw [getQ, tTo_is (Nat.le_refl _), List.take_length]
theorem getQ_perm {l m : List Ent} (h : l.Perm m) (x : Int) : getQ l x = getQ m x := by
  have := upS_perm (show (ofF l x).Perm (ofF m x) from h.filter _)
  rw [getQ_is, getQ_is, this.1, this.2]
theorem valueF_perm {l m : List Ent} (h : l.Perm m) : valueF l = valueF m := by
  rw [valueF_is, valueF_is, itemsF, itemsF, sortE_of h]
  exact List.map_congr_left fun x _ => by rw [getQ_perm h]
theorem turn_perm {l : List Ent} (k : Nat) : (l.drop k ++ l.take k).Perm l := by
  have := List.perm_append_comm (l₁ := l.drop k) (l₂ := l.take k)
  rwa [List.take_append_drop] at this
end Go.Proofs.Ytbfjcohocedoaaa.Ca
