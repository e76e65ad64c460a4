/- Backoffs in plain Lean. Nothing here speaks of a program. -/
import Derived.Test.YtnmajoiafockgaaKf
namespace Go.Aw.Bo
set_option linter.unusedVariables false
set_option linter.unusedSimpArgs false
def rightB (b c m t : Int) : Bool := decide (1 ≤ b ∧ b ≤ 1000 ∧ b ≤ c ∧ c ≤ 1048576 ∧ 1 ≤ m ∧ m ≤ 1073741824 ∧ 0 ≤ t ∧ t ≤ 1073741824)
theorem right_of {b c m t : Int} (h : rightB b c m t = true) : 1 ≤ b ∧ b ≤ 1000 ∧ b ≤ c ∧ c ≤ 1048576 ∧ 1 ≤ m ∧ m ≤ 1073741824 ∧ 0 ≤ t ∧ t ≤ 1073741824 := of_decide_eq_true h
theorem right_mk {b c m t : Int} (h : 1 ≤ b ∧ b ≤ 1000 ∧ b ≤ c ∧ c ≤ 1048576 ∧ 1 ≤ m ∧ m ≤ 1073741824 ∧ 0 ≤ t ∧ t ≤ 1073741824) : rightB b c m t = true := decide_eq_true h
/-- doubled so often -/
def pw (b : Int) : Nat → Int
  | 0 => b
  | i + 1 => pw b i * 2
theorem pw_pos {b : Int} (h : 1 ≤ b) : ∀ i, 1 ≤ pw b i
  | 0 => h
  | i + 1 => by have := pw_pos h i; rw [pw]; omega
theorem pw_mono {b : Int} (h : 1 ≤ b) {i : Nat} : ∀ {j : Nat}, i ≤ j → pw b i ≤ pw b j
  | 0, hj => by rw [Nat.le_zero.1 hj]; exact Int.le_refl _
  | j + 1, hj => by
    by_cases e : i = j + 1
    · rw [e]; exact Int.le_refl _
    · have := pw_mono h (i := i) (j := j) (by omega)
      have h2 := pw_pos h j
      rw [pw]; omega
theorem pw_base {b c : Int} (h : b ≤ c) : ∀ i, pw b i ≤ pw c i
  | 0 => h
  | i + 1 => by have := pw_base h i; rw [pw, pw]; omega
theorem pw_20 {b : Int} (h : 1 ≤ b) {i : Nat} (hi : 20 ≤ i) : 1048576 ≤ pw b i := by
  have h1 := pw_mono h hi
  have h2 : pw b 20 = b * 1048576 := by simp only [pw]; omega
  omega
theorem pw_30 {b : Int} (h : b ≤ 1000) {i : Nat} (h1 : 1 ≤ b) (hi : i ≤ 30) : pw b i ≤ 1073741824000 := by
  have k1 := pw_mono h1 hi
  have k2 := pw_base h 30
  have k3 : pw 1000 30 = 1073741824000 := by decide
  omega
/-- how long to wait -/
def gapF (b c : Int) (t : Nat) : Int := if c < pw b t then c else pw b t
theorem gap_in {b c : Int} {t : Nat} (h : 1 ≤ b) (hbc : b ≤ c) : b ≤ gapF b c t ∧ gapF b c t ≤ c := by
  have h1 := pw_mono h (Nat.zero_le t)
  unfold gapF; split
  · omega
  · exact ⟨h1, by omega⟩
theorem gap_big {b c : Int} {t : Nat} (h : 1 ≤ b) (hc : c ≤ 1048576) (ht : 20 ≤ t) : gapF b c t = c := by
  have h1 := pw_20 h ht
  unfold gapF; split
  · rfl
  · omega
theorem gap_step {b c : Int} {t : Nat} (h : 1 ≤ b) (hbc : b ≤ c) : gapF b c t ≤ gapF b c (t + 1) ∧ (gapF b c (t + 1) = c ∨ gapF b c (t + 1) = 2 * gapF b c t) := by
  have h1 := pw_pos h t
  unfold gapF
  rw [pw]
  split <;> split <;> omega
/-- the tries, so much later -/
def trF (t : Int) (i : Nat) : Int := if t + i ≤ 1073741824 then t + i else 1073741824
theorem trF_in {t : Int} (h : 0 ≤ t ∧ t ≤ 1073741824) (i : Nat) : 0 ≤ trF t i ∧ trF t i ≤ 1073741824 := by unfold trF; split <;> omega
theorem trF_0 {t : Int} (h : t ≤ 1073741824) : trF t 0 = t := by unfold trF; rw [if_pos (by omega)]; omega
def nxF (t : Int) : Int := if t < 1073741824 then t + 1 else t
theorem trF_succ {t : Int} (h : t ≤ 1073741824) (i : Nat) : trF t (i + 1) = nxF (trF t i) := by
  unfold trF nxF; split <;> split <;> (try split) <;> omega
def gapsL (b c t : Int) (n : Nat) : List Int := (List.range n).map fun i => gapF b c (trF t i).toNat
theorem gapsL_len {b c t : Int} {n : Nat} : (gapsL b c t n).length = n := by simp [gapsL]
theorem gapsL_get {b c t : Int} {n i : Nat} (h : i < n) : (gapsL b c t n).getD i default = gapF b c (trF t i).toNat := by simp [gapsL, List.getD_eq_getElem?_getD, h]
theorem gapsL_succ {b c t : Int} {n : Nat} : gapsL b c t (n + 1) = gapsL b c t n ++ [gapF b c (trF t n).toNat] := by unfold gapsL; rw [List.range_succ, List.map_append]; rfl
def sumTo (l : List Int) : Nat → Int
  | 0 => 0
  | i + 1 => sumTo l i + l.getD i default
theorem gap_tr {b c t : Int} (h : 1 ≤ b) (hbc : b ≤ c) (hc : c ≤ 1048576) (h0 : 0 ≤ t ∧ t ≤ 1073741824) (i : Nat) : gapF b c (trF t i).toNat ≤ gapF b c (trF t (i + 1)).toNat ∧ (gapF b c (trF t (i + 1)).toNat = c ∨ gapF b c (trF t (i + 1)).toNat = 2 * gapF b c (trF t i).toNat) := by
  by_cases hl : t + (i + 1 : Nat) ≤ 1073741824
  · have e1 : (trF t (i + 1)).toNat = (trF t i).toNat + 1 := by unfold trF; rw [if_pos hl, if_pos (by omega)]; omega
    rw [e1]; exact gap_step h hbc
  · have e1 : trF t (i + 1) = 1073741824 := by unfold trF; rw [if_neg hl]
    have e2 : gapF b c (trF t (i + 1)).toNat = c := gap_big h hc (by rw [e1]; decide)
    rw [e2]
    exact ⟨(gap_in h hbc).2, .inl rfl⟩
theorem sumTo_in {l : List Int} {c : Int} (h : ∀ i, 0 ≤ l.getD i default ∧ l.getD i default ≤ 1048576) : ∀ i, 0 ≤ sumTo l i ∧ sumTo l i ≤ 1048576 * i
  | 0 => ⟨Int.le_refl _, Int.le_refl _⟩
  | i + 1 => by have := sumTo_in (c := c) h i; have h2 := h i; rw [sumTo]; omega
theorem gapsL_in {b c t : Int} {n : Nat} (h : 1 ≤ b) (hbc : b ≤ c) (hc : c ≤ 1048576) (i : Nat) : 0 ≤ (gapsL b c t n).getD i default ∧ (gapsL b c t n).getD i default ≤ 1048576 := by
  by_cases hi : i < n
  · rw [gapsL_get hi]; have := gap_in (t := (trF t i).toNat) h hbc; omega
  · rw [List.getD_eq_getElem?_getD, List.getElem?_eq_none (by rw [gapsL_len]; omega)]; exact ⟨Int.le_refl _, by decide⟩
end Go.Aw.Bo
