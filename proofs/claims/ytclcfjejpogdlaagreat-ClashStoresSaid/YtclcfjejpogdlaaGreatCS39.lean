/- Walks of two trees, and clashes, in plain Lean. Nothing here speaks of a program. -/
import Derived.Test.YtclcfjejpogdlaaGreatCS37
namespace Go.Aw.Clash
open Go.Aw Go.Aw.Sha Go.Aw.Tree
set_option linter.unusedVariables false
set_option linter.unusedSimpArgs false
attribute [local irreducible] sum
/-- unlike digests of a place -/
def un (T U : List Nat) (p : Int) : Bool := decide (row T p.toNat ≠ row U p.toNat)
def kidsL (l : List Int) : List Int := l.flatMap kidsF
def digsL (T : List Nat) (l : List Int) : List (List Nat) := l.map fun p => row T p.toNat
def unL (T U : List Nat) (l : List Int) : List Int := (kidsL l).filter (un T U)
def leavesL (l : List Int) : List Int := (l.filter fun p => decide (0 ≤ leafOf p)).map leafOf
/-- the places at the last level, the looks, the levels -/
def walkF (T U : List Nat) : List Int × Int × Int :=
  if row T 0 = row U 0 then ([], 1, 0)
  else if unL T U [0] = [] then ([], 5, 1)
  else if unL T U (unL T U [0]) = [] then ([], 5 + 4 * (unL T U [0]).length, 2)
  else (unL T U (unL T U [0]), 5 + 4 * (unL T U [0]).length, 3)
/-- the walk's states: the places, were they written out, the looks -/
def wst (T U : List Nat) : Nat → List Int × Bool × Int
  | 0 => ([0], true, 1)
  | 1 => (unL T U [0], false, 5)
  | _ + 2 => (unL T U (unL T U [0]), false, 5 + 4 * (unL T U [0]).length)
def wstP (T U : List Nat) (r : Nat) : Prop := r ≤ 2 ∧ (1 ≤ r → unL T U [0] ≠ []) ∧ (2 ≤ r → unL T U (unL T U [0]) ≠ []) ∧ row T 0 ≠ row U 0
/-- does a walk come to a leaf? -/
def comesL (T U : List Nat) (i : Nat) : Bool := un T U 0 && un T U ((4 + (i : Int)) / 4) && un T U (5 + (i : Int))
theorem kidsL_0 : kidsL [0] = [1, 2, 3, 4] := rfl
theorem unL_0 {T U : List Nat} : unL T U [0] = ([1, 2, 3, 4] : List Int).filter (un T U) := rfl
theorem unL_in {T U : List Nat} {p : Int} (h : p ∈ unL T U [0]) : 1 ≤ p ∧ p ≤ 4 := by
  rw [unL_0] at h
  have := (List.mem_filter.1 h).1
  simp at this; omega
theorem flatMap_filter {α β : Type} (u : α → Bool) (f : α → List β) (l : List α) : (l.filter u).flatMap f = l.flatMap fun x => if u x then f x else [] := by
  induction l with
  | nil => rfl
  | cons a l ih => by_cases h : u a = true <;> simp [h, ih]
theorem kidsL_len {l : List Int} (h : ∀ p ∈ l, 0 ≤ p ∧ p ≤ 4) : (kidsL l).length = 4 * l.length := by
  induction l with
  | nil => rfl
  | cons a l ih =>
    unfold kidsL at *
    rw [List.flatMap_cons, List.length_append, ih fun p hp => h p (by simp [hp]), kidsF_in (h a (by simp)), List.length_cons]
    simp only [List.length_cons, List.length_nil]; omega
theorem kidsL_in {l : List Int} (h : ∀ p ∈ l, 1 ≤ p ∧ p ≤ 4) {p : Int} (hp : p ∈ kidsL l) : 5 ≤ p ∧ p ≤ 20 := by
  obtain ⟨q, hq, hpq⟩ := List.mem_flatMap.1 hp
  have := h q hq
  rw [kidsF_in (by omega)] at hpq
  simp at hpq; omega
theorem kidsL_snoc {l : List Int} {i : Nat} (h : i < l.length) : kidsL (l.take (i + 1)) = kidsL (l.take i) ++ kidsF (l.getD i default) := by
  rw [take_snocD h]; simp [kidsL]
theorem kidsF_le (p : Int) : (kidsF p).length ≤ 4 := by unfold kidsF; split <;> simp
theorem kidsL_le (l : List Int) : (kidsL l).length ≤ 4 * l.length := by
  induction l with
  | nil => simp [kidsL]
  | cons a l ih =>
    have := kidsF_le a
    unfold kidsL at *
    rw [List.flatMap_cons, List.length_append, List.length_cons]; omega
theorem kidsL_get {l : List Int} {i : Nat} (h : i < (kidsL l).length) : 0 ≤ (kidsL l).getD i default ∧ (kidsL l).getD i default < 21 := by
  have hmem : (kidsL l).getD i default ∈ kidsL l := by
    rw [List.getD_eq_getElem?_getD, List.getElem?_eq_getElem h]; exact List.getElem_mem _
  obtain ⟨q, hq, hpq⟩ := List.mem_flatMap.1 hmem
  by_cases k : 0 ≤ q ∧ q ≤ 4
  · rw [kidsF_in k] at hpq
    simp only [List.mem_cons, List.not_mem_nil, or_false] at hpq
    omega
  · rw [kidsF_out k] at hpq; cases hpq
theorem digsL_snoc {T : List Nat} {l : List Int} {i : Nat} (h : i < l.length) : digsL T (l.take (i + 1)) = digsL T (l.take i) ++ [row T (l.getD i default).toNat] := by
  rw [take_snocD h]; simp [digsL]
theorem filter_snoc {u : Int → Bool} {l : List Int} {i : Nat} (h : i < l.length) : (l.take (i + 1)).filter u = (l.take i).filter u ++ (if u (l.getD i default) then [l.getD i default] else []) := by
  rw [take_snocD h, List.filter_append]
  generalize l.getD i default = a
  by_cases k : u a = true <;> simp [k]
theorem leavesL_snoc {l : List Int} {i : Nat} (h : i < l.length) : leavesL (l.take (i + 1)) = leavesL (l.take i) ++ (if 0 ≤ leafOf (l.getD i default) then [leafOf (l.getD i default)] else []) := by
  unfold leavesL
  rw [filter_snoc h, List.map_append]
  generalize l.getD i default = a
  by_cases k : 0 ≤ leafOf a <;> simp [k]
theorem digsL_get {T : List Nat} {l : List Int} {i : Nat} (h : i < l.length) : (digsL T l).getD i default = row T (l.getD i default).toNat := by
  simp [digsL, List.getD_eq_getElem?_getD, h]
theorem leavesL_le (l : List Int) : (leavesL l).length ≤ l.length := by
  unfold leavesL; rw [List.length_map]; exact List.length_filter_le ..
theorem unL_two {T U : List Nat} {p : Int} (h : p ∈ unL T U (unL T U [0])) : 5 ≤ p ∧ p ≤ 20 := by
  have := (List.mem_filter.1 h).1
  exact kidsL_in (fun p hp => unL_in hp) this
theorem kids_two {T U : List Nat} : kidsL (unL T U (unL T U [0])) = [] := by
  unfold kidsL
  refine List.flatMap_eq_nil_iff.2 fun p hp => ?_
  have := unL_two hp
  exact kidsF_out (by omega)
theorem kids_one {T U : List Nat} : (kidsL (unL T U [0])).length = 4 * (unL T U [0]).length := kidsL_len fun p hp => by have := unL_in hp; omega
theorem unL_le {T U : List Nat} (l : List Int) : (unL T U l).length ≤ 4 * l.length := by
  have h1 := List.length_filter_le (un T U) (kidsL l)
  have h2 := kidsL_le l
  unfold unL; omega
theorem wst_len {T U : List Nat} (r : Nat) : (wst T U r).1.length ≤ 100 := by
  have h1 := unL_le (T := T) (U := U) [0]
  have h2 := unL_le (T := T) (U := U) (unL T U [0])
  simp only [List.length_cons, List.length_nil] at h1
  match r with
  | 0 => simp [wst]
  | 1 => simp only [wst]; omega
  | r + 2 => simp only [wst]; omega
theorem wst_k {T U : List Nat} (r : Nat) : 0 ≤ (wst T U r).2.2 ∧ (wst T U r).2.2 ≤ 1000 := by
  have h1 := unL_le (T := T) (U := U) [0]
  simp only [List.length_cons, List.length_nil] at h1
  match r with
  | 0 => simp [wst]
  | 1 => simp [wst]
  | r + 2 => simp only [wst]; omega
theorem wst_end {T U : List Nat} {r : Nat} (h : wstP T U r) (hk : kidsL (wst T U r).1 = []) : walkF T U = ((wst T U r).1, (wst T U r).2.2, (r : Int) + 1) ∧ (wst T U r).2.1 = false := by
  obtain ⟨h1, h2, h3, h4⟩ := h
  match r, h1, h2, h3, hk with
  | 0, _, _, _, hk => simp [wst, kidsL_0] at hk
  | 1, _, h2, _, hk =>
    have := kids_one (T := T) (U := U)
    simp only [wst] at hk
    rw [hk] at this
    have h5 := h2 (by omega)
    have : (unL T U [0]).length = 0 := by rw [List.length_nil] at this; omega
    exact absurd (List.eq_nil_of_length_eq_zero this) h5
  | 2, _, h2, h3, hk =>
    refine ⟨?_, rfl⟩
    unfold walkF
    rw [if_neg h4, if_neg (h2 (by omega)), if_neg (h3 (by omega))]; rfl
theorem wst_stop {T U : List Nat} {r : Nat} (h : wstP T U r) (hk : kidsL (wst T U r).1 ≠ []) (hu : unL T U (wst T U r).1 = []) : walkF T U = ([], (wst T U r).2.2 + (kidsL (wst T U r).1).length, (r : Int) + 1) := by
  obtain ⟨h1, h2, h3, h4⟩ := h
  match r, h1, h2, h3, hk, hu with
  | 0, _, _, _, hk, hu =>
    unfold walkF
    have hu' : unL T U [0] = [] := hu
    rw [if_neg h4, if_pos hu']; rfl
  | 1, _, h2, _, hk, hu =>
    unfold walkF
    have hu' : unL T U (unL T U [0]) = [] := hu
    rw [if_neg h4, if_neg (h2 (by omega)), if_pos hu']
    have := kids_one (T := T) (U := U)
    simp only [wst]
    rw [this]
    refine Prod.ext rfl (Prod.ext ?_ rfl)
    dsimp only; omega
  | 2, _, h2, h3, hk, hu => exact absurd kids_two hk
theorem wst_next {T U : List Nat} {r : Nat} (h : wstP T U r) (hk : kidsL (wst T U r).1 ≠ []) (hu : unL T U (wst T U r).1 ≠ []) : r ≤ 1 ∧ wst T U (r + 1) = (unL T U (wst T U r).1, false, (wst T U r).2.2 + (kidsL (wst T U r).1).length) ∧ wstP T U (r + 1) := by
  obtain ⟨h1, h2, h3, h4⟩ := h
  match r, h1, h2, h3, hk, hu with
  | 0, _, _, _, hk, hu => exact ⟨by omega, rfl, by omega, fun _ => hu, fun k => by omega, h4⟩
  | 1, _, h2, _, hk, hu =>
    refine ⟨by omega, ?_, by omega, fun _ => h2 (by omega), fun _ => hu, h4⟩
    have := kids_one (T := T) (U := U)
    simp only [wst]
    rw [this]
    refine Prod.ext rfl (Prod.ext rfl ?_)
    dsimp only; omega
  | 2, _, h2, h3, hk, hu => exact absurd kids_two hk
theorem walkF_len {T U : List Nat} : (walkF T U).1.length ≤ 100 := by
  have h := wst_len (T := T) (U := U) 2
  unfold walkF
  split
  · simp
  · split
    · simp
    · split
      · simp
      · exact h
/-- the leaves to which a walk comes -/
def comeList (T U : List Nat) : List Int := ((List.range 16).filter (comesL T U)).map fun i : Nat => (i : Int)
theorem leavesL_two {T U : List Nat} : leavesL (unL T U (unL T U [0])) = ((List.range 16).filter fun i : Nat => un T U ((4 + (i : Int)) / 4) && un T U (5 + (i : Int))).map fun i : Nat => (i : Int) := by
  have key : ∀ (q : Int) (i j k l : Nat) (P : Bool), P = un T U q → (kidsF q).filter (un T U) = (kidsF q).filter (un T U) := fun _ _ _ _ _ _ _ => rfl
  unfold unL
  rw [kidsL_0]
  unfold kidsL leavesL
  rw [flatMap_filter]
  simp only [List.flatMap_cons, List.flatMap_nil, List.append_nil]
  have r16 : List.range 16 = [0, 1, 2, 3] ++ [4, 5, 6, 7] ++ [8, 9, 10, 11] ++ [12, 13, 14, 15] := rfl
  rw [r16]
  simp only [List.filter_append, List.map_append]
  have part : ∀ (q : Int) (l : List Nat), 1 ≤ q → q ≤ 4 → l = [(4 * q - 4).toNat, (4 * q - 3).toNat, (4 * q - 2).toNat, (4 * q - 1).toNat] →
      (((if un T U q then kidsF q else []).filter (un T U)).filter fun p => decide (0 ≤ leafOf p)).map leafOf = (l.filter fun i : Nat => un T U ((4 + (i : Int)) / 4) && un T U (5 + (i : Int))).map fun i : Nat => (i : Int) := by
    intro q l h1 h2 hl
    have hlf : ∀ p : Int, 5 ≤ p → p ≤ 20 → leafOf p = p - 5 := fun p k1 k2 => by unfold leafOf; rw [if_pos (by omega)]
    have hi : ∀ i ∈ l, (4 + (i : Int)) / 4 = q := fun i hi => by
      rw [hl] at hi; simp at hi; omega
    have e1 : (l.filter fun i : Nat => un T U ((4 + (i : Int)) / 4) && un T U (5 + (i : Int))) = l.filter fun i : Nat => un T U q && un T U (5 + (i : Int)) :=
      List.filter_congr fun i h => by rw [hi i h]
    rw [e1]
    cases hu : un T U q with
    | false => simp
    | true =>
      simp only [if_true, Bool.true_and]
      have hk : kidsF q = l.map fun i : Nat => 5 + (i : Int) := by
        rw [kidsF_in (by omega), hl]; simp; omega
      rw [hk, List.filter_map, List.filter_map, List.map_map]
      have e2 : ((l.filter (un T U ∘ fun i : Nat => 5 + (i : Int))).filter ((fun p => decide (0 ≤ leafOf p)) ∘ fun i : Nat => 5 + (i : Int))) = l.filter (un T U ∘ fun i : Nat => 5 + (i : Int)) := by
        refine List.filter_eq_self.2 fun i h => ?_
        have hil := (List.mem_filter.1 h).1
        have : i ≤ 15 := by rw [hl] at hil; simp at hil; omega
        simp only [Function.comp_apply]
        rw [hlf _ (by omega) (by omega)]
        exact decide_eq_true (by omega)
      rw [e2]
      refine List.map_congr_left fun i h => ?_
      have hil := (List.mem_filter.1 h).1
      have : i ≤ 15 := by rw [hl] at hil; simp at hil; omega
      simp only [Function.comp_apply]
      rw [hlf _ (by omega) (by omega)]; omega
  rw [part 1 [0, 1, 2, 3] (by omega) (by omega) rfl, part 2 [4, 5, 6, 7] (by omega) (by omega) rfl, part 3 [8, 9, 10, 11] (by omega) (by omega) rfl, part 4 [12, 13, 14, 15] (by omega) (by omega) rfl]
  simp only [List.append_assoc]
theorem walk_leaves {T U : List Nat} : leavesL (walkF T U).1 = comeList T U := by
  have h2 := leavesL_two (T := T) (U := U)
  unfold walkF comeList
  by_cases h0 : row T 0 = row U 0
  · rw [if_pos h0]
    have hu : un T U 0 = false := decide_eq_false (by simpa using h0)
    have : (List.range 16).filter (comesL T U) = [] := List.filter_eq_nil_iff.2 fun i _ => by unfold comesL; rw [hu]; simp
    rw [this]; rfl
  · rw [if_neg h0]
    have hu : un T U 0 = true := decide_eq_true (by simpa using h0)
    have e : (List.range 16).filter (comesL T U) = (List.range 16).filter fun i : Nat => un T U ((4 + (i : Int)) / 4) && un T U (5 + (i : Int)) :=
      List.filter_congr fun i _ => by unfold comesL; rw [hu]; simp
    rw [e, ← h2]
    split
    · rename_i h; rw [h]; rfl
    · split
      · rename_i h; rw [h]
      · rfl
/-- what a place's digest is made of -/
def madeF (ls : List (List Nat)) (T : List Nat) (p : Int) : List Nat := if 0 ≤ leafOf p then 0 :: ls.getD (leafOf p).toNat default else belowF T p
def clashB (ls ms : List (List Nat)) (T U : List Nat) (p : Nat) : Bool := decide (row T p = row U p) && !decide (madeF ls T p = madeF ms U p)
/-- the least clash of all places from k on, n of them -/
def atFrom (ls ms : List (List Nat)) (T U : List Nat) (k : Nat) : Nat → Int
  | 0 => -1
  | n + 1 => if clashB ls ms T U k then k else atFrom ls ms T U (k + 1) n
def atF (ls ms : List (List Nat)) (T U : List Nat) : Int := atFrom ls ms T U 0 21
theorem atFrom_in {ls ms : List (List Nat)} {T U : List Nat} : ∀ (n k : Nat), atFrom ls ms T U k n = -1 ∧ (∀ p, k ≤ p → p < k + n → clashB ls ms T U p = false) ∨ ∃ p : Nat, atFrom ls ms T U k n = p ∧ k ≤ p ∧ p < k + n ∧ clashB ls ms T U p = true
  | 0, k => .inl ⟨rfl, fun p h1 h2 => by omega⟩
  | n + 1, k => by
    unfold atFrom
    by_cases h : clashB ls ms T U k = true
    · rw [if_pos h]; exact .inr ⟨k, rfl, by omega, by omega, h⟩
    · rw [if_neg h]
      rcases atFrom_in (ls := ls) (ms := ms) (T := T) (U := U) n (k + 1) with ⟨h1, h2⟩ | ⟨p, h1, h2, h3, h4⟩
      · refine .inl ⟨h1, fun p k1 k2 => ?_⟩
        by_cases e : p = k
        · subst e; simpa using h
        · exact h2 p (by omega) (by omega)
      · exact .inr ⟨p, h1, by omega, by omega, h4⟩
theorem made_sum {ls : List (List Nat)} {p : Nat} (hp : p < 21) : sum (madeF ls (ofF ls) p) = row (ofF ls) p := by
  unfold madeF leafOf
  by_cases h : 5 ≤ p
  · rw [if_pos (by rw [if_pos (by omega)]; omega), if_pos (by omega)]
    have := of_row ls (i := p - 5) (by omega)
    rw [show 5 + (p - 5) = p by omega] at this
    rw [this, show ((p : Int) - 5).toNat = p - 5 by omega]; rfl
  · rw [if_neg (by rw [if_neg (by omega)]; omega)]
    exact (right_row (of_right ls) (by omega)).symm
/-- of two unlike texts with one digest -/
theorem clash_says {ls ms : List (List Nat)} {p : Nat} (hp : p < 21) (h : clashB ls ms (ofF ls) (ofF ms) p = true) : madeF ls (ofF ls) p ≠ madeF ms (ofF ms) p ∧ sum (madeF ls (ofF ls) p) = sum (madeF ms (ofF ms) p) := by
  unfold clashB at h
  simp only [Bool.and_eq_true, decide_eq_true_eq, Bool.not_eq_true', decide_eq_false_iff_not] at h
  exact ⟨h.2, by rw [made_sum hp, made_sum hp]; exact h.1⟩
/-- no clash: unlike texts have unlike digests, all the way up -/
theorem un_of_text {ls ms : List (List Nat)} (hn : ∀ p, p < 21 → clashB ls ms (ofF ls) (ofF ms) p = false) {i : Nat} (hi : i < 16) : comesL (ofF ls) (ofF ms) i = decide (ls.getD i default ≠ ms.getD i default) := by
  have hc : ∀ p, p < 21 → row (ofF ls) p = row (ofF ms) p → madeF ls (ofF ls) p = madeF ms (ofF ms) p := fun p hp h => by
    have := hn p hp
    unfold clashB at this
    rw [decide_eq_true h] at this
    simpa using this
  have leaf : ∀ j, j < 16 → madeF ls (ofF ls) ((5 + j : Nat) : Int) = 0 :: ls.getD j default := fun j hj => by
    unfold madeF leafOf
    rw [if_pos (by rw [if_pos (by omega)]; omega), if_pos (by omega), show (((5 + j : Nat) : Int) - 5).toNat = j by omega]
  have leaf' : ∀ j, j < 16 → madeF ms (ofF ms) ((5 + j : Nat) : Int) = 0 :: ms.getD j default := fun j hj => by
    unfold madeF leafOf
    rw [if_pos (by rw [if_pos (by omega)]; omega), if_pos (by omega), show (((5 + j : Nat) : Int) - 5).toNat = j by omega]
  have inner : ∀ p : Nat, p < 5 → madeF ls (ofF ls) (p : Int) = belowF (ofF ls) p ∧ madeF ms (ofF ms) (p : Int) = belowF (ofF ms) p := fun p hp => by
    unfold madeF leafOf
    rw [if_neg (by rw [if_neg (by omega)]; omega)]
    exact ⟨rfl, by rw [if_neg (by rw [if_neg (by omega)]; omega)]⟩
  have lT := ofF_len ls
  have lU := ofF_len ms
  -- equal below: equal rows below
  have split4 : ∀ p : Nat, p ≤ 4 → belowF (ofF ls) p = belowF (ofF ms) p → ∀ j, 4 * p + 1 ≤ j → j ≤ 4 * p + 4 → row (ofF ls) j = row (ofF ms) j := fun p hp h j h1 h2 => by
    rw [below4 hp, below4 hp] at h
    have l : ∀ k, k < 21 → (row (ofF ls) k).length = (row (ofF ms) k).length := fun k hk => by rw [row_len lT hk, row_len lU hk]
    obtain ⟨h3, e4⟩ := List.append_inj h (by simp only [List.length_append, l (4 * p + 1) (by omega), l (4 * p + 2) (by omega), l (4 * p + 3) (by omega)])
    obtain ⟨h5, e3⟩ := List.append_inj h3 (by simp only [List.length_append, l (4 * p + 1) (by omega), l (4 * p + 2) (by omega)])
    obtain ⟨h6, e2⟩ := List.append_inj h5 (by simp only [List.length_append, l (4 * p + 1) (by omega)])
    obtain ⟨_, e1⟩ := List.append_inj h6 rfl
    have : j = 4 * p + 1 ∨ j = 4 * p + 2 ∨ j = 4 * p + 3 ∨ j = 4 * p + 4 := by omega
    rcases this with rfl | rfl | rfl | rfl <;> assumption
  unfold comesL un
  by_cases h : ls.getD i default = ms.getD i default
  · have : row (ofF ls) (5 + i) = row (ofF ms) (5 + i) := by rw [of_row ls hi, of_row ms hi, h]
    rw [show ((5 : Int) + (i : Int)).toNat = 5 + i by omega, decide_eq_false (p := row (ofF ls) (5 + i) ≠ row (ofF ms) (5 + i)) (fun k => k this), decide_eq_false (p := ls.getD i default ≠ ms.getD i default) (fun k => k h), Bool.and_false]
  · have u5 : row (ofF ls) (5 + i) ≠ row (ofF ms) (5 + i) := fun e => by
      have := hc (5 + i) (by omega) e
      rw [leaf i hi, leaf' i hi] at this
      exact h (List.cons.inj this).2
    have uq : row (ofF ls) ((4 + i) / 4) ≠ row (ofF ms) ((4 + i) / 4) := fun e => by
      have := hc ((4 + i) / 4) (by omega) e
      rw [(inner _ (by omega)).1, (inner _ (by omega)).2] at this
      exact u5 (split4 _ (by omega) this (5 + i) (by omega) (by omega))
    have u0 : row (ofF ls) 0 ≠ row (ofF ms) 0 := fun e => by
      have := hc 0 (by omega) e
      have i0 := inner 0 (by omega)
      rw [i0.1, i0.2] at this
      exact uq (split4 0 (by omega) this ((4 + i) / 4) (by omega) (by omega))
    rw [show ((5 : Int) + (i : Int)).toNat = 5 + i by omega, show ((4 + (i : Int)) / 4).toNat = (4 + i) / 4 by omega]
    rw [decide_eq_true u5, decide_eq_true uq, decide_eq_true (show row (ofF ls) (Int.toNat 0) ≠ row (ofF ms) (Int.toNat 0) from u0), decide_eq_true (p := ls.getD i default ≠ ms.getD i default) h]; rfl
end Go.Aw.Clash
