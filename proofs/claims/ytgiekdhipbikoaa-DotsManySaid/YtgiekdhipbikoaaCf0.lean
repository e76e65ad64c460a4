/- dots, plain: a whole set is one that has of each dot the one ahead, too -/
import Derived.Test.YtgiekdhipbikoaaCd8
namespace Go.Proofs.Ytgiekdhipbikoaa.Ca
open Go Go.RowKit Go.Aw Go.Aw.Cart Go.Aw.Ord Go.Sort
set_option linter.unusedVariables false
set_option linter.unusedSimpArgs false
set_option maxRecDepth 8000
set_option maxHeartbeats 4000000
theorem getF_with {v : List Int} {d : Dot} {n : Int} (hv : v.length = 8) (hd : nodeF d.1 = true) : getF (withF v d) n = if n = d.1 then (if getF v n < d.2 then d.2 else getF v n) else getF v n := by
  have h1 := of_decide_eq_true hd
  unfold getF withF
  rw [if_pos hd]
  by_cases hn : 1 ≤ n ∧ n ≤ 8
  · rw [if_pos hn, if_pos hn, List.getD_eq_getElem?_getD, List.getElem?_set]
    by_cases e : n = d.1
    · subst e
      rw [if_pos rfl, if_pos (by omega), if_pos rfl]; rfl
    · rw [if_neg (by omega), if_neg e, ← List.getD_eq_getElem?_getD]
  · rw [if_neg hn, if_neg hn, if_neg (by omega)]
theorem zero_get : ∀ k, zeroV.getD k default = 0
  | 0 => rfl | 1 => rfl | 2 => rfl | 3 => rfl | 4 => rfl | 5 => rfl | 6 => rfl | 7 => rfl
  | k + 8 => rfl
theorem span_nn (l : List Dot) : ∀ i, ∀ n ∈ spanTo l i, 0 ≤ n
  | 0 => (by decide : ∀ n ∈ zeroV, (0 : Int) ≤ n)
  | i + 1 => by
    rw [spanTo]
    split
    · rename_i hd
      have h1 := of_decide_eq_true hd
      unfold withF
      rw [if_pos (show nodeF (l.getD i default).1 = true from decide_eq_true ⟨h1.1, h1.2.1⟩)]
      intro n hn
      rcases List.mem_or_eq_of_mem_set hn with k | rfl
      · exact span_nn l i n k
      · split <;> omega
    · exact span_nn l i
theorem span_pos (l : List Dot) (i : Nat) (n : Int) : 0 ≤ getF (spanTo l i) n := by
  unfold getF
  split
  · rename_i hn
    have hi : (n - 1).toNat < (spanTo l i).length := by rw [spanTo_len]; omega
    rw [getD_at hi]; exact span_nn l i _ (List.getElem_mem _)
  · exact Int.le_refl _
theorem drTo_iff {l : List Dot} : ∀ (n k : Nat), drTo l k n = true ↔ ∀ i, k ≤ i → i < k + n → drow l i = true
  | 0, k => ⟨fun _ i h1 h2 => by omega, fun _ => rfl⟩
  | n + 1, k => by
    rw [drTo, Bool.and_eq_true, drTo_iff n (k + 1)]
    constructor
    · rintro ⟨h1, h2⟩ i a b
      by_cases e : i = k
      · rw [e]; exact h1
      · exact h2 i (by omega) (by omega)
    · exact fun h => ⟨h k (Nat.le_refl _) (by omega), fun i a b => h i (by omega) (by omega)⟩
theorem dr_is {l : List Dot} (h : dRightF l = true) : l.Pairwise ltD ∧ (∀ d ∈ l, dotF d = true) ∧ l.length ≤ 2000 := by
  unfold dRightF at h
  rw [Bool.and_eq_true, decide_eq_true_eq] at h
  have h1 := (drTo_iff l.length 0).1 h.1
  have hd : ∀ d ∈ l, dotF d = true := fun d hd => by
    obtain ⟨i, hi, e⟩ := List.getElem_of_mem hd
    have := h1 i (Nat.zero_le _) (by omega)
    unfold drow at this
    rw [Bool.and_eq_true, getD_at hi, e] at this
    exact this.1
  have ha : ∀ i, (hi : i + 1 < l.length) → ltD l[i] l[i + 1] := fun i hi => by
    have := h1 (i + 1) (Nat.zero_le _) (by omega)
    unfold drow at this
    rw [Bool.and_eq_true, Bool.or_eq_true, decide_eq_true_eq, decide_eq_true_eq] at this
    rcases this.2 with q | q
    · omega
    · rw [show i + 1 - 1 = i by omega, getD_at hi, getD_at (show i < l.length by omega)] at q
      exact cmpD_lt.1 q
  refine ⟨List.pairwise_iff_getElem.2 ?_, hd, h.2⟩
  intro i j hi hj hij
  obtain ⟨n, rfl⟩ : ∃ n, j = i + 1 + n := ⟨j - (i + 1), by omega⟩
  clear hij
  induction n with
  | zero => exact ha i hj
  | succ n ih => exact ltD_tr _ _ _ (ih (by omega)) (ha (i + 1 + n) hj)
theorem span_le {l : List Dot} {n : Int} {B : Int} (hB : 0 ≤ B) : ∀ i, (∀ j, j < i → (l.getD j default).1 = n → (l.getD j default).2 ≤ B) → getF (spanTo l i) n ≤ B
  | 0, _ => by
    rw [spanTo]; unfold getF
    split
    · rw [zero_get]; exact hB
    · exact hB
  | i + 1, h => by
    have ih := span_le hB i fun j hj => h j (by omega)
    have hi := h i (by omega)
    rw [spanTo]
    split
    · rename_i hd
      have h1 := of_decide_eq_true hd
      rw [getF_with (spanTo_len l i) (decide_eq_true ⟨h1.1, h1.2.1⟩)]
      split
      · rename_i e
        split
        · exact hi e.symm
        · exact ih
      · exact ih
    · exact ih
theorem span_mono {l : List Dot} {n : Int} (i : Nat) : getF (spanTo l i) n ≤ getF (spanTo l (i + 1)) n := by
  rw [spanTo]
  split
  · rename_i hd
    have h1 := of_decide_eq_true hd
    rw [getF_with (spanTo_len l i) (decide_eq_true ⟨h1.1, h1.2.1⟩)]
    split
    · split
      · omega
      · exact Int.le_refl _
    · exact Int.le_refl _
  · exact Int.le_refl _
theorem span_ge {l : List Dot} {j : Nat} (hd : dotF (l.getD j default) = true) : ∀ i, j < i → (l.getD j default).2 ≤ getF (spanTo l i) (l.getD j default).1
  | i + 1, h => by
    by_cases e : j = i
    · subst e
      have h1 := of_decide_eq_true hd
      rw [spanTo, if_pos hd, getF_with (spanTo_len l j) (decide_eq_true ⟨h1.1, h1.2.1⟩), if_pos rfl]
      split <;> omega
    · exact Int.le_trans (span_ge hd i (by omega)) (span_mono i)
/-- the dot ahead is there, too -/
def gapF (l : List Dot) (d : Dot) : Bool := decide (0 < d.2 - 1) && !decide ((d.1, d.2 - 1) ∈ l)
theorem whole_is {l : List Dot} (hb : ∀ d ∈ l, d.2 < 18446744073709551616) : wholeF l = (dRightF l && l.all fun d => !gapF l d) := by
  rw [Bool.eq_iff_iff]
  constructor
  · intro h
    have hr : dRightF l = true := by unfold wholeF at h; rw [Bool.and_eq_true] at h; exact h.2
    rw [hr, Bool.true_and, List.all_eq_true]
    intro d hd
    obtain ⟨i, hi, e⟩ := List.getElem_of_mem hd
    have hw : wOk l i := by
      unfold wholeF at h
      rw [Bool.and_eq_true] at h
      exact (wTo_iff l.length 0).1 h.1 i (Nat.zero_le _) (by omega)
    obtain ⟨h1, h2⟩ := span_whole h i (by omega)
    obtain ⟨k1, k2, k3⟩ := wok_new hw
    have e' : l.getD i default = d := by rw [getD_at hi, e]
    rw [e'] at k1 k2 k3
    have q2 : d.2 = getF (spanTo l i) d.1 + 1 := by
      have := congrArg Prod.snd k3
      exact this
    unfold gapF
    by_cases hz : 0 < d.2 - 1
    · have : hasF (spanTo l i) (d.1, d.2 - 1) = true := by
        unfold hasF dotF
        have n1 := of_decide_eq_true k1
        rw [decide_eq_true (show 1 ≤ d.1 ∧ d.1 ≤ 8 ∧ 0 < d.2 - 1 from ⟨n1.1, n1.2, hz⟩), Bool.true_and]
        exact decide_eq_true (show d.2 - 1 ≤ getF (spanTo l i) d.1 by omega)
      have hm := (h2 _).1 this
      rw [decide_eq_true (List.mem_of_mem_take hm)]
      simp
    · rw [decide_eq_false hz]; rfl
  · intro h
    rw [Bool.and_eq_true, List.all_eq_true] at h
    obtain ⟨hr, hg⟩ := h
    unfold wholeF
    rw [hr, Bool.and_true, wTo_iff]
    intro i _ hi
    obtain ⟨hup, hdot, _⟩ := dr_is hr
    have hil : i < l.length := by omega
    have em : l.getD i default = l[i] := getD_at hil
    have hm : l[i] ∈ l := List.getElem_mem hil
    have hdi := hdot _ hm
    have hgi := hg _ hm
    have hbi := hb _ hm
    have n1 := of_decide_eq_true hdi
    have up : ∀ j, j < i → ltD (l.getD j default) l[i] := fun j hj => by
      rw [getD_at (show j < l.length by omega)]
      exact List.pairwise_iff_getElem.1 hup j i (by omega) hil hj
    have g1 : getF (spanTo l i) l[i].1 ≤ l[i].2 - 1 := span_le (by omega) i fun j hj e => by
      have := up j hj
      unfold ltD at this
      omega
    have g2 : l[i].2 - 1 ≤ getF (spanTo l i) l[i].1 := by
      unfold gapF at hgi
      by_cases hz : 0 < l[i].2 - 1
      · rw [decide_eq_true hz, Bool.true_and, Bool.not_not, decide_eq_true_eq] at hgi
        obtain ⟨j, hj, ej⟩ := List.getElem_of_mem hgi
        have ej' : l.getD j default = (l[i].1, l[i].2 - 1) := by rw [getD_at hj, ej]
        have hji : j < i := by
          rcases Nat.lt_trichotomy j i with q | q | q
          · exact q
          · subst q; rw [em] at ej'; have := congrArg Prod.snd ej'; simp only at this; omega
          · have := List.pairwise_iff_getElem.1 hup i j hil hj q
            rw [ej] at this
            unfold ltD at this
            simp only at this
            omega
        have := span_ge (l := l) (j := j) (by rw [ej']; exact decide_eq_true ⟨n1.1, n1.2.1, hz⟩) i hji
        rw [ej'] at this
        exact this
      · have := span_pos l i l[i].1
        omega
    unfold wOk nextF
    rw [em, if_neg (by rw [show nodeF l[i].1 = true from decide_eq_true ⟨n1.1, n1.2.1⟩]; simp), if_neg (by omega)]
    rw [show getF (spanTo l i) l[i].1 + 1 = l[i].2 by omega]
end Go.Proofs.Ytgiekdhipbikoaa.Ca
