/- Clashes in plain Lean: the laws. Nothing here speaks of a program. -/
import Derived.Test.YtpamepepibnlfaaClE
import Derived.Test.YtpamepepibnlfaaTrF
namespace Go.Proofs.Ytpamepepibnlfaa.Cl
open Go.Aw Go.Aw.Sha Go.Aw.Tree Go.Aw.Clash Go.Proofs.Ytpamepepibnlfaa.Tr
set_option linter.unusedVariables false
set_option linter.unusedSimpArgs false
attribute [local irreducible] sum

theorem okB_of (ls : List (List Nat)) : okB (ofF ls) := okB_inner (okB_leaves ls 16) 5
theorem okB_made {ls : List (List Nat)} {T : List Nat} (hl : okT ls) (hT : okB T) (p : Int) : okB (madeF ls T p) := by
  unfold madeF; split
  · exact .cons (by decide) (okT_get hl _)
  · exact okB_below hT p
theorem madeF_len {ls : List (List Nat)} {T : List Nat} (hl : few ls) (hT : T.length = 672) (p : Int) : (madeF ls T p).length ≤ 400000001 := by
  unfold madeF; split
  · have := few_get hl (leafOf p).toNat
    simp only [List.length_cons]; omega
  · have := belowF_len (p := p) hT; omega
theorem at_cases (ls ms : List (List Nat)) : atF ls ms (ofF ls) (ofF ms) = -1 ∧ (∀ p, p < 21 → clashB ls ms (ofF ls) (ofF ms) p = false) ∨ ∃ p : Nat, atF ls ms (ofF ls) (ofF ms) = p ∧ p < 21 ∧ clashB ls ms (ofF ls) (ofF ms) p = true := by
  rcases atFrom_in (ls := ls) (ms := ms) (T := ofF ls) (U := ofF ms) 21 0 with ⟨h1, h2⟩ | ⟨p, h1, h2, h3, h4⟩
  · exact .inl ⟨h1, fun p hp => h2 p (by omega) (by omega)⟩
  · exact .inr ⟨p, h1, by omega, h4⟩
theorem mem_come {T U : List Nat} {i : Nat} (hi : i < 16) : ((i : Int) ∈ comeList T U) ↔ comesL T U i = true := by
  unfold comeList
  rw [List.mem_map]
  constructor
  · rintro ⟨j, hj, e⟩
    have : j = i := by omega
    subst this
    exact (List.mem_filter.1 hj).2
  · intro h
    exact ⟨i, List.mem_filter.2 ⟨List.mem_range.2 hi, h⟩, rfl⟩
theorem exact_none {ls ms : List (List Nat)} (hn : ∀ p, p < 21 → clashB ls ms (ofF ls) (ofF ms) p = false) : exTo ls ms (leavesL (walkF (ofF ls) (ofF ms)).1) 16 := by
  rw [walk_leaves]
  intro i hi
  have h1 := un_of_text hn hi
  have h2 := mem_come (T := ofF ls) (U := ofF ms) hi
  generalize ofF ls = T at *
  generalize ofF ms = U at *
  have h3 : ((i : Int) ∈ comeList T U) ↔ ls.getD i default ≠ ms.getD i default := by rw [h2, h1]; exact decide_eq_true_iff
  rw [decide_eq_decide.2 h3]
  by_cases h : ls.getD i default = ms.getD i default
  · rw [decide_eq_true h, decide_eq_false (p := ls.getD i default ≠ ms.getD i default) (fun q => q h)]; decide
  · rw [decide_eq_false h, decide_eq_true (p := ls.getD i default ≠ ms.getD i default) h]; decide
theorem self_none (ls : List (List Nat)) : ∀ p, p < 21 → clashB ls ls (ofF ls) (ofF ls) p = false := fun p _ => by
  generalize ofF ls = T
  unfold clashB
  rw [decide_eq_true (p := madeF ls T p = madeF ls T p) rfl, Bool.not_true, Bool.and_false]
theorem at_self (ls : List (List Nat)) : atF ls ls (ofF ls) (ofF ls) = -1 := by
  rcases at_cases ls ls with ⟨h, _⟩ | ⟨p, _, hp, h⟩
  · exact h
  · rw [self_none ls p hp] at h; cases h
theorem walk_self (T : List Nat) : walkF T T = ([], 1, 0) := by unfold walkF; rw [if_pos rfl]
theorem un_one {ls ms : List (List Nat)} {k : Nat} (hk : k < 16) (hn : ∀ p, p < 21 → clashB ls ms (ofF ls) (ofF ms) p = false) (hd : ∀ i, i < 16 → i ≠ k → ls.getD i default = ms.getD i default) (hne : ls.getD k default ≠ ms.getD k default) :
    un (ofF ls) (ofF ms) 0 = true ∧ ∀ p : Int, 1 ≤ p → p ≤ 20 → un (ofF ls) (ofF ms) p = decide (p = (4 + (k : Int)) / 4 ∨ p = 5 + (k : Int)) := by
  have hc : comesL (ofF ls) (ofF ms) k = true := by rw [un_of_text hn hk]; exact decide_eq_true hne
  unfold comesL at hc
  simp only [Bool.and_eq_true] at hc
  obtain ⟨⟨h0, hq⟩, h5⟩ := hc
  have lf : ∀ i, i < 16 → i ≠ k → row (ofF ls) (5 + i) = row (ofF ms) (5 + i) := fun i hi hik => by rw [of_row ls hi, of_row ms hi, hd i hi hik]
  refine ⟨h0, fun p h1 h2 => ?_⟩
  by_cases hp : p = (4 + (k : Int)) / 4 ∨ p = 5 + (k : Int)
  · rw [decide_eq_true hp]
    rcases hp with rfl | rfl
    · exact hq
    · exact h5
  · rw [decide_eq_false hp]
    have hr : row (ofF ls) p.toNat = row (ofF ms) p.toNat := by
      by_cases hp5 : 5 ≤ p
      · have := lf (p - 5).toNat (by omega) (by omega)
        rwa [show 5 + (p - 5).toNat = p.toNat by omega] at this
      · rw [right_row (of_right ls) (by omega), right_row (of_right ms) (by omega)]
        refine congrArg sum (below_congr fun i hi => ?_)
        have := lf (4 * p.toNat + 1 + i - 5) (by omega) (by omega)
        rwa [show 5 + (4 * p.toNat + 1 + i - 5) = 4 * p.toNat + 1 + i by omega] at this
    unfold un
    exact decide_eq_false fun q => q hr
theorem fix_up : ∀ k : Nat, k < 16 → ([1, 2, 3, 4] : List Int).filter (fun p => decide (p = (4 + (k : Int)) / 4 ∨ p = 5 + (k : Int))) = [(4 + (k : Int)) / 4] := by decide
theorem fix_dn : ∀ k : Nat, k < 16 → (kidsF ((4 + (k : Int)) / 4)).filter (fun p => decide (p = (4 + (k : Int)) / 4 ∨ p = 5 + (k : Int))) = [5 + (k : Int)] := by decide
theorem walk_one {ls ms : List (List Nat)} {k : Nat} (hk : k < 16) (hn : ∀ p, p < 21 → clashB ls ms (ofF ls) (ofF ms) p = false) (hd : ∀ i, i < 16 → i ≠ k → ls.getD i default = ms.getD i default) (hne : ls.getD k default ≠ ms.getD k default) :
    walkF (ofF ls) (ofF ms) = ([5 + (k : Int)], 9, 3) := by
  obtain ⟨h0, hu⟩ := un_one hk hn hd hne
  have e1 : unL (ofF ls) (ofF ms) [0] = [(4 + (k : Int)) / 4] := by
    rw [unL_0, ← fix_up k hk]
    refine List.filter_congr fun p hp => hu p ?_ ?_ <;> simp at hp <;> omega
  have e2 : unL (ofF ls) (ofF ms) [(4 + (k : Int)) / 4] = [5 + (k : Int)] := by
    unfold unL kidsL
    rw [← fix_dn k hk, List.flatMap_cons, List.flatMap_nil, List.append_nil]
    refine List.filter_congr fun p hp => ?_
    rw [kidsF_in (by omega)] at hp
    refine hu p ?_ ?_ <;> simp at hp <;> omega
  have hr0 : row (ofF ls) 0 ≠ row (ofF ms) 0 := of_decide_eq_true h0
  unfold walkF
  rw [if_neg hr0, e1, e2]
  simp
theorem leaves_one (k : Nat) (hk : k < 16) : leavesL [5 + (k : Int)] = [(k : Int)] := by
  have h : ∀ k : Nat, k < 16 → leavesL [5 + (k : Int)] = [(k : Int)] := by decide
  exact h k hk
/-- what is extracted -/
def exF (ls ms : List (List Nat)) : List Nat × List Nat × Bool :=
  if atF ls ms (ofF ls) (ofF ms) < 0 then ([], [], false) else (madeF ls (ofF ls) (atF ls ms (ofF ls) (ofF ms)), madeF ms (ofF ms) (atF ls ms (ofF ls) (ofF ms)), true)
theorem ex_says (ls ms : List (List Nat)) : (exF ls ms).2.2 = false ∧ exF ls ms = ([], [], false) ∧ (∀ p, p < 21 → clashB ls ms (ofF ls) (ofF ms) p = false) ∨ (exF ls ms).2.2 = true ∧ (exF ls ms).1 ≠ (exF ls ms).2.1 ∧ sum (exF ls ms).1 = sum (exF ls ms).2.1 := by
  unfold exF
  rcases at_cases ls ms with ⟨h, hn⟩ | ⟨p, h, hp, hc⟩
  · rw [h, if_pos (by decide)]; exact .inl ⟨rfl, rfl, hn⟩
  · rw [h, if_neg (by omega)]
    exact .inr ⟨rfl, (clash_says hp hc).1, (clash_says hp hc).2⟩
theorem exF_ok {ls ms : List (List Nat)} (hl : okT ls) (hm : okT ms) : okB (exF ls ms).1 ∧ okB (exF ls ms).2.1 := by
  unfold exF; split
  · exact ⟨.nil, .nil⟩
  · exact ⟨okB_made hl (okB_of ls) _, okB_made hm (okB_of ms) _⟩
theorem exF_len {ls ms : List (List Nat)} (hl : few ls) (hm : few ms) : (exF ls ms).1.length ≤ 400000001 ∧ (exF ls ms).2.1.length ≤ 400000001 := by
  unfold exF; split
  · exact ⟨Nat.zero_le _, Nat.zero_le _⟩
  · exact ⟨madeF_len hl (ofF_len ls) _, madeF_len hm (ofF_len ms) _⟩
/-- the document's way to see whether a walk is exact -/
def exR (ls ms : List (List Nat)) (l : List Int) : Nat → Nat → Nat → Bool
  | _, k, 0 => decide (k = l.length)
  | i, k, n + 1 => if ls.getD i default = ms.getD i default then exR ls ms l (i + 1) k n else if k < l.length ∧ l.getD k default = i then exR ls ms l (i + 1) (k + 1) n else false
theorem exR_stuck {ls ms : List (List Nat)} {l : List Int} {k : Nat} (hk : k < l.length) : ∀ (n i : Nat), l.getD k default < i → exR ls ms l i k n = false
  | 0, i, h => decide_eq_false (by omega)
  | n + 1, i, h => by
    rw [exR]
    split
    · exact exR_stuck hk n (i + 1) (by omega)
    · rw [if_neg (by omega)]
theorem exR_says {ls ms : List (List Nat)} {l : List Int} {P : Nat → Bool} : ∀ (n i k : Nat), k ≤ l.length → l.drop k = ((List.range' i n).filter P).map (fun j : Nat => (j : Int)) → exR ls ms l i k n = decide (∀ j, j < i + n → i ≤ j → P j = decide (ls.getD j default ≠ ms.getD j default))
  | 0, i, k, hk, h => by
    have : l.length ≤ k := by simpa using h
    rw [exR]
    rw [decide_eq_true (show k = l.length by omega)]
    exact (decide_eq_true fun j h1 h2 => by omega).symm
  | n + 1, i, k, hk, h => by
    rw [List.range'_succ, List.filter_cons] at h
    have all : ∀ {q : Prop} [Decidable q], (q ↔ (P i = decide (ls.getD i default ≠ ms.getD i default) ∧ ∀ j, j < i + 1 + n → i + 1 ≤ j → P j = decide (ls.getD j default ≠ ms.getD j default))) → decide q = decide (∀ j, j < i + (n + 1) → i ≤ j → P j = decide (ls.getD j default ≠ ms.getD j default)) := fun {q} _ hq => by
      refine decide_eq_decide.2 (hq.trans ⟨fun ⟨a, b⟩ j h1 h2 => ?_, fun a => ⟨a i (by omega) (by omega), fun j h1 h2 => a j (by omega) (by omega)⟩⟩)
      by_cases e : j = i
      · subst e; exact a
      · exact b j (by omega) (by omega)
    rw [exR]
    by_cases hP : P i = true
    · rw [if_pos hP, List.map_cons] at h
      have hkl : k < l.length := by
        rcases Nat.lt_or_ge k l.length with g | g
        · exact g
        · rw [List.drop_eq_nil_of_le g] at h; cases h
      rw [List.drop_eq_getElem_cons hkl] at h
      have hg : l.getD k default = i := by rw [List.getD_eq_getElem?_getD, List.getElem?_eq_getElem hkl]; exact (List.cons.inj h).1
      by_cases hl : ls.getD i default = ms.getD i default
      · rw [if_pos hl, exR_stuck hkl n (i + 1) (by omega)]
        rw [← all (q := False) ⟨fun x => x.elim, fun ⟨a, _⟩ => by rw [hP, decide_eq_false (p := ls.getD i default ≠ ms.getD i default) (fun q => q hl)] at a; cases a⟩]; rfl
      · rw [if_neg hl, if_pos ⟨hkl, hg⟩, exR_says n (i + 1) (k + 1) (by omega) (List.cons.inj h).2]
        exact all ⟨fun x => ⟨by rw [hP]; exact (decide_eq_true hl).symm, x⟩, fun ⟨_, x⟩ => x⟩
    · rw [if_neg hP] at h
      have hPf : P i = false := by simpa using hP
      by_cases hl : ls.getD i default = ms.getD i default
      · rw [if_pos hl, exR_says n (i + 1) k hk h]
        exact all ⟨fun x => ⟨by rw [hPf]; exact (decide_eq_false fun q => q hl).symm, x⟩, fun ⟨_, x⟩ => x⟩
      · rw [if_neg hl]
        have hno : ¬ (k < l.length ∧ l.getD k default = i) := fun ⟨a, b⟩ => by
          rw [List.drop_eq_getElem_cons a] at h
          have hm : l[k] ∈ (((List.range' (i + 1) n).filter P).map (fun j : Nat => (j : Int))) := by rw [← h]; exact List.mem_cons_self
          obtain ⟨j, hj, e⟩ := List.mem_map.1 hm
          have := (List.mem_range'_1.1 (List.mem_filter.1 hj).1).1
          rw [List.getD_eq_getElem?_getD, List.getElem?_eq_getElem a] at b
          simp at b; omega
        rw [if_neg hno, ← all (q := False) ⟨fun x => x.elim, fun ⟨a, _⟩ => by rw [hPf, decide_eq_true (p := ls.getD i default ≠ ms.getD i default) hl] at a; cases a⟩]; rfl
theorem exR_is {ls ms : List (List Nat)} : exR ls ms (comeList (ofF ls) (ofF ms)) 0 0 16 = decide (exTo ls ms (leavesL (walkF (ofF ls) (ofF ms)).1) 16) := by
  rw [exR_says (P := comesL (ofF ls) (ofF ms)) 16 0 0 (Nat.zero_le _) (by rw [List.drop_zero]; unfold comeList; rw [List.range_eq_range'])]
  refine decide_eq_decide.2 ⟨fun h i hi => ?_, fun h j h1 _ => ?_⟩
  · have h3 := h i (by omega) (by omega)
    have h4 : ((i : Int) ∈ comeList (ofF ls) (ofF ms)) ↔ ls.getD i default ≠ ms.getD i default := (mem_come hi).trans (by rw [h3]; exact decide_eq_true_iff)
    rw [walk_leaves, decide_eq_decide.2 h4]
    by_cases e : ls.getD i default = ms.getD i default
    · rw [decide_eq_true e, decide_eq_false (p := ls.getD i default ≠ ms.getD i default) (fun q => q e)]; decide
    · rw [decide_eq_false e, decide_eq_true (p := ls.getD i default ≠ ms.getD i default) e]; decide
  · have := h j (by omega)
    rw [walk_leaves, decide_eq_decide.2 (mem_come (by omega)), show decide (comesL (ofF ls) (ofF ms) j = true) = comesL (ofF ls) (ofF ms) j from by generalize comesL (ofF ls) (ofF ms) j = x; cases x <;> rfl] at this
    generalize comesL (ofF ls) (ofF ms) j = x at this ⊢
    by_cases e : ls.getD j default = ms.getD j default
    · rw [decide_eq_true e] at this
      rw [decide_eq_false (p := ls.getD j default ≠ ms.getD j default) (fun q => q e)]
      cases x
      · rfl
      · exact absurd rfl this
    · rw [decide_eq_false e] at this
      rw [decide_eq_true (p := ls.getD j default ≠ ms.getD j default) e]
      cases x
      · exact absurd rfl this
      · rfl
end Go.Proofs.Ytpamepepibnlfaa.Cl
