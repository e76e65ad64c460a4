/- Trees of digests in plain Lean: the laws. Nothing here speaks of a program. -/
import Derived.Test.YtpamepepibnlfaaTrM
namespace Go.Aw.Tree
open Go.Aw Go.Aw.Sha
set_option linter.unusedVariables false
set_option linter.unusedSimpArgs false
attribute [local irreducible] sum

theorem row_fix {T : List Nat} {p : Nat} (h : T.length = 672) (hp : p < 21) : row (fixF T p) p = sum (belowF T p) := rowOf_setRow (by omega) (sumLen _)
theorem row_fix_ne {T : List Nat} {p q : Nat} (h : T.length = 672) (hp : p < 21) (hq : q ≠ p) : row (fixF T p) q = row T q := rowOf_setRow_ne (by omega) (sumLen _) hq
theorem belowTo_congr {T U : List Nat} {p : Int} (h : ∀ i : Nat, i < 4 → row T (4 * p + 1 + i).toNat = row U (4 * p + 1 + i).toNat) : ∀ k, k ≤ 4 → belowTo T p k = belowTo U p k
  | 0, _ => rfl
  | k + 1, hk => by rw [belowTo, belowTo, belowTo_congr h k (by omega), h k (by omega)]
theorem below_congr {T U : List Nat} {p : Nat} (h : ∀ i : Nat, i < 4 → row T (4 * p + 1 + i) = row U (4 * p + 1 + i)) : belowF T p = belowF U p := by
  unfold belowF
  rw [belowTo_congr (fun i hi => ?_) 4 (by omega)]
  rw [show (4 * (p : Int) + 1 + i).toNat = 4 * p + 1 + i by omega]; exact h i hi
theorem below_fix {T : List Nat} {p q : Nat} (h : T.length = 672) (hq : q < 21) (hpq : q < 4 * p + 1 ∨ 4 * p + 4 < q) : belowF (fixF T q) p = belowF T p :=
  below_congr fun i hi => row_fix_ne h hq (by omega)

theorem inner_row {T : List Nat} (h : T.length = 672) {r : Nat} (hr : 5 ≤ r) : ∀ k, row (innerTo T k) r = row T r
  | 0 => rfl
  | k + 1 => by rw [innerTo, row_fix_ne (innerTo_len h k) (by omega) (by omega), inner_row h hr k]
theorem inner_right {T : List Nat} (h : T.length = 672) : ∀ k, k ≤ 5 → ∀ p, 5 - k ≤ p → p < 5 → row (innerTo T k) p = sum (belowF (innerTo T k) p)
  | 0, _, p, h1, h2 => by omega
  | k + 1, hk, p, h1, h2 => by
    have hl := innerTo_len h k
    rw [innerTo]
    rw [below_fix hl (by omega) (.inl (by omega))]
    by_cases hp : p = 4 - k
    · subst hp; rw [row_fix hl (by omega)]
    · rw [row_fix_ne hl (by omega) hp]; exact inner_right h k (by omega) p (by omega) h2
theorem right_inner {T : List Nat} (h : T.length = 672) : rightF (innerF T) = true := decide_eq_true fun p hp => inner_right h 5 (by omega) p (by omega) hp
theorem right_row {T : List Nat} (h : rightF T = true) {p : Nat} (hp : p < 5) : row T p = sum (belowF T p) := (of_decide_eq_true h : okTo T 5) p hp
theorem fix_right {T : List Nat} (h : T.length = 672) (hr : rightF T = true) {p : Nat} (hp : p < 5) : fixF T p = T := by
  unfold fixF; rw [← right_row hr hp]; exact setRow_self (by omega)
theorem inner_same {T : List Nat} (h : T.length = 672) (hr : rightF T = true) : ∀ k, k ≤ 5 → innerTo T k = T
  | 0, _ => rfl
  | k + 1, hk => by rw [innerTo, inner_same h hr k (by omega), fix_right h hr (by omega)]
theorem right_iff {T : List Nat} (h : T.length = 672) : rightF T = decide (innerF T = T) := by
  by_cases hr : rightF T = true
  · rw [hr]; exact (decide_eq_true (inner_same h hr 5 (by omega))).symm
  · have : rightF T = false := by simpa using hr
    rw [this]
    refine (decide_eq_false fun e => hr ?_).symm
    rw [← e]; exact right_inner h

theorem leaves_row (ls : List (List Nat)) : ∀ k, k ≤ 16 → ∀ i, i < k → row (leavesTo ls k) (5 + i) = leafD (ls.getD i default)
  | 0, _, i, h => by omega
  | k + 1, hk, i, h => by
    have hl := leavesTo_len ls k (by omega)
    rw [leavesTo]
    by_cases e : i = k
    · subst e; exact rowOf_setRow (by omega) (leafD_len _)
    · rw [row, rowOf_setRow_ne (by omega) (leafD_len _) (by omega)]; exact leaves_row ls k (by omega) i (by omega)
theorem of_row (ls : List (List Nat)) {i : Nat} (h : i < 16) : row (ofF ls) (5 + i) = leafD (ls.getD i default) := by
  unfold ofF innerF; rw [inner_row (leavesTo_len ls 16 (by omega)) (by omega), leaves_row ls 16 (by omega) i h]
theorem of_right (ls : List (List Nat)) : rightF (ofF ls) = true := right_inner (leavesTo_len ls 16 (by omega))
/-- a right tree is told by its leaves -/
theorem right_unique {T U : List Nat} (hT : T.length = 672) (hU : U.length = 672) (rT : rightF T = true) (rU : rightF U = true) (h : ∀ i, i < 16 → row T (5 + i) = row U (5 + i)) : T = U := by
  have h5 : ∀ p, 5 ≤ p → p < 21 → row T p = row U p := fun p h1 h2 => by
    have := h (p - 5) (by omega)
    rwa [show 5 + (p - 5) = p by omega] at this
  have h1 : ∀ p, 1 ≤ p → p < 5 → row T p = row U p := fun p k1 k2 => by
    rw [right_row rT k2, right_row rU k2, below_congr fun i hi => h5 _ (by omega) (by omega)]
  have h0 : row T 0 = row U 0 := by
    rw [right_row rT (by omega), right_row rU (by omega), below_congr fun i hi => h1 _ (by omega) (by omega)]
  refine rows_ext (es := 32) (n := 21) hT hU fun i hi => ?_
  rcases Nat.lt_or_ge i 5 with k | k
  · rcases Nat.eq_zero_or_pos i with e | e
    · subst e; exact h0
    · exact h1 i e k
  · exact h5 i k hi

section withs
variable {T : List Nat} {n : Nat} {b : List Nat}
theorem withF_nat (hn : n ≤ 15) : withF T n b = fixF (fixF (setRow 32 T (5 + n) (leafD b)) ((4 + n) / 4)) 0 := by
  unfold withF
  rw [if_pos (by omega), show ((5 : Int) + n).toNat = 5 + n by omega, show (((4 : Int) + n) / 4).toNat = (4 + n) / 4 by omega]
theorem set_len (h : T.length = 672) (hn : n ≤ 15) : (setRow 32 T (5 + n) (leafD b)).length = 672 := by rw [setRow_len (by omega) (leafD_len _)]; exact h
theorem with_row (h : T.length = 672) (hn : n ≤ 15) {p : Nat} (h0 : p ≠ 0) (h1 : p ≠ 5 + n) (h2 : p ≠ (4 + n) / 4) : row (withF T n b) p = row T p := by
  rw [withF_nat hn, row_fix_ne (fixF_len (set_len h hn) (by omega)) (by omega) h0, row_fix_ne (set_len h hn) (by omega) h2]
  exact rowOf_setRow_ne (by omega) (leafD_len _) h1
theorem with_leaf (h : T.length = 672) (hn : n ≤ 15) : row (withF T n b) (5 + n) = leafD b := by
  rw [withF_nat hn, row_fix_ne (fixF_len (set_len h hn) (by omega)) (by omega) (by omega), row_fix_ne (set_len h hn) (by omega) (by omega)]
  exact rowOf_setRow (by omega) (leafD_len _)
theorem with_right (h : T.length = 672) (hr : rightF T = true) (hn : n ≤ 15) : rightF (withF T n b) = true := by
  have l1 := set_len (b := b) h hn
  have l2 : (fixF (setRow 32 T (5 + n) (leafD b)) ((4 + n) / 4)).length = 672 := fixF_len l1 (by omega)
  refine decide_eq_true fun p hp => ?_
  rw [withF_nat hn, below_fix l2 (by omega) (.inl (by omega))]
  by_cases p0 : p = 0
  · subst p0; exact row_fix l2 (by omega)
  · rw [row_fix_ne l2 (by omega) p0, below_fix l1 (by omega) (by omega)]
    by_cases pq : p = (4 + n) / 4
    · subst pq; exact row_fix l1 (by omega)
    · rw [row_fix_ne l1 (by omega) pq, row, rowOf_setRow_ne (by omega) (leafD_len _) (by omega)]
      have := right_row hr hp
      rw [row] at this
      rw [this]
      refine congrArg sum (below_congr fun i hi => ?_)
      exact (rowOf_setRow_ne (l := T) (i := 5 + n) (r := leafD b) (by omega) (leafD_len _) (by omega)).symm
theorem with_same (h : T.length = 672) (hr : rightF T = true) (hn : n ≤ 15) (hb : row T (5 + n) = leafD b) : withF T n b = T := by
  rw [withF_nat hn, ← hb, setRow_self (by omega), fix_right h hr (by omega), fix_right h hr (by omega)]
end withs
theorem with_out {T : List Nat} {n : Int} {b : List Nat} (h : ¬ (0 ≤ n ∧ n ≤ 15)) : withF T n b = T := by unfold withF; rw [if_neg h]
theorem with_right' {T : List Nat} {n : Int} {b : List Nat} (h : T.length = 672) (hr : rightF T = true) : rightF (withF T n b) = true := by
  by_cases hn : 0 ≤ n ∧ n ≤ 15
  · obtain ⟨k, rfl⟩ : ∃ k : Nat, n = k := ⟨n.toNat, by omega⟩
    exact with_right h hr (by omega)
  · rw [with_out hn]; exact hr
theorem below4 {T : List Nat} {p : Nat} (hp : p ≤ 4) : belowF T p = [1] ++ row T (4 * p + 1) ++ row T (4 * p + 2) ++ row T (4 * p + 3) ++ row T (4 * p + 4) := by
  unfold belowF
  rw [if_pos (by omega)]
  simp only [belowTo]
  rw [show (4 * (p : Int) + 1 + (0 : Nat)).toNat = 4 * p + 1 by omega, show (4 * (p : Int) + 1 + (1 : Nat)).toNat = 4 * p + 2 by omega, show (4 * (p : Int) + 1 + (2 : Nat)).toNat = 4 * p + 3 by omega, show (4 * (p : Int) + 1 + (3 : Nat)).toNat = 4 * p + 4 by omega]
end Go.Aw.Tree
