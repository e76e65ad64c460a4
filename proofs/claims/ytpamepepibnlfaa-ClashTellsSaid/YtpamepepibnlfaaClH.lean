/- clashes, the laws: fixed texts, in plain Lean -/
import Derived.Test.YtpamepepibnlfaaClP
import Derived.Test.YtpamepepibnlfaaShK
namespace Go.Proofs.Ytpamepepibnlfaa.Cl
open Go Go.RowKit Go.Aw Go.Aw.Sha Go.Aw.Tree Go.Aw.Clash Go.Proofs.Ytpamepepibnlfaa.Sh Go.Proofs.Ytpamepepibnlfaa.Tr
set_option linter.unusedVariables false
set_option linter.unusedSimpArgs false
set_option maxRecDepth 8000
attribute [local irreducible] sum
set_option maxHeartbeats 4000000
theorem ex_none {ls ms : List (List Nat)} (hn : ∀ p, p < 21 → clashB ls ms (ofF ls) (ofF ms) p = false) : exF ls ms = ([], [], false) := by
  rcases at_cases ls ms with ⟨h, _⟩ | ⟨p, _, hp, h⟩
  · unfold exF; rw [h, if_pos (by decide)]
  · rw [hn p hp] at h; cases h
def fixA : List (List Nat) := List.replicate 16 []
def fixB : List (List Nat) := (List.replicate 16 []).set 3 [120]
theorem fixA_get {i : Nat} (h : i < 16) : fixA.getD i default = [] := by
  unfold fixA
  rw [List.getD_eq_getElem?_getD, List.getElem?_replicate, if_pos h]; rfl
theorem fixB_get {i : Nat} (h : i < 16) (h3 : i ≠ 3) : fixB.getD i default = [] := by
  unfold fixB
  rw [List.getD_eq_getElem?_getD, List.getElem?_set_ne (by omega), List.getElem?_replicate, if_pos h]; rfl
theorem fixB_3 : fixB.getD 3 default = [120] := by decide
theorem fixA_few : few fixA := ⟨by decide, fun b hb => by rw [List.eq_of_mem_replicate hb]; simp⟩
theorem fixB_few : few fixB := ⟨by decide, fun b hb => by
  rcases List.mem_or_eq_of_mem_set hb with h | h
  · rw [List.eq_of_mem_replicate h]; simp
  · rw [h]; simp⟩
theorem fixA_ok : okT fixA := fun b hb => by rw [List.eq_of_mem_replicate hb]; exact .nil
theorem fixB_ok : okT fixB := fun b hb => by
  rcases List.mem_or_eq_of_mem_set hb with h | h
  · rw [List.eq_of_mem_replicate h]; exact .nil
  · rw [h]; exact .cons (by decide) .nil
theorem fix_none : ∀ p, p < 21 → clashB fixA fixB (ofF fixA) (ofF fixB) p = false := by
  have a : ∀ i, i < 16 → row (ofF fixA) (5 + i) = k_d0 := fun i hi => by rw [of_row _ hi, ← kv_d0, fixA_get hi]; rfl
  have a' : ∀ i, i < 16 → i ≠ 3 → row (ofF fixB) (5 + i) = k_d0 := fun i hi h3 => by rw [of_row _ hi, ← kv_d0, fixB_get hi h3]; rfl
  have x8 : row (ofF fixB) 8 = k_dx := by
    have := of_row fixB (i := 3) (by omega)
    rw [fixB_3] at this
    rw [show (8 : Nat) = 5 + 3 from rfl, this, ← kv_dx]; rfl
  have e : ∀ j, 5 ≤ j → j < 21 → row (ofF fixA) j = k_d0 := fun j h1 h2 => by
    have := a (j - 5) (by omega); rwa [show 5 + (j - 5) = j by omega] at this
  have e' : ∀ j, 5 ≤ j → j < 21 → j ≠ 8 → row (ofF fixB) j = k_d0 := fun j h1 h2 h3 => by
    have := a' (j - 5) (by omega) (by omega); rwa [show 5 + (j - 5) = j by omega] at this
  have b : ∀ p, 1 ≤ p → p ≤ 4 → row (ofF fixA) p = k_d1 := fun p h1 h2 => by
    rw [right_row (of_right _) (by omega), below4 h2, e _ (by omega) (by omega), e _ (by omega) (by omega), e _ (by omega) (by omega), e _ (by omega) (by omega), kv_d1]
  have b' : ∀ p, 2 ≤ p → p ≤ 4 → row (ofF fixB) p = k_d1 := fun p h1 h2 => by
    rw [right_row (of_right _) (by omega), below4 h2, e' _ (by omega) (by omega) (by omega), e' _ (by omega) (by omega) (by omega), e' _ (by omega) (by omega) (by omega), e' _ (by omega) (by omega) (by omega), kv_d1]
  have u1 : row (ofF fixB) 1 = k_d1x := by
    rw [right_row (of_right _) (by omega), below4 (by omega), e' _ (by omega) (by omega) (by omega), e' _ (by omega) (by omega) (by omega), e' _ (by omega) (by omega) (by omega), x8, kv_d1x]
  have c : row (ofF fixA) 0 = k_r := by
    rw [right_row (of_right _) (by omega), below4 (by omega), b _ (by omega) (by omega), b _ (by omega) (by omega), b _ (by omega) (by omega), b _ (by omega) (by omega), kv_r]
  have u0 : row (ofF fixB) 0 = k_rx := by
    rw [right_row (of_right _) (by omega), below4 (by omega), u1, b' _ (by omega) (by omega), b' _ (by omega) (by omega), b' _ (by omega) (by omega), kv_rx]
  intro p hp
  unfold clashB
  have same : madeF fixA (ofF fixA) p = madeF fixB (ofF fixB) p → (decide (row (ofF fixA) p = row (ofF fixB) p) && !decide (madeF fixA (ofF fixA) p = madeF fixB (ofF fixB) p)) = false := fun h => by rw [decide_eq_true h]; simp
  have other : row (ofF fixA) p ≠ row (ofF fixB) p → (decide (row (ofF fixA) p = row (ofF fixB) p) && !decide (madeF fixA (ofF fixA) p = madeF fixB (ofF fixB) p)) = false := fun h => by rw [decide_eq_false h]; rfl
  by_cases h5 : 5 ≤ p
  · by_cases h8 : p = 8
    · subst h8
      exact other (by rw [x8, e _ (by omega) (by omega)]; decide)
    · refine same ?_
      have hlf : leafOf (p : Int) = (p : Int) - 5 := by unfold leafOf; rw [if_pos (by omega)]
      unfold madeF
      rw [hlf, if_pos (by omega), if_pos (by omega), show ((p : Int) - 5).toNat = p - 5 by omega, fixA_get (by omega), fixB_get (by omega) (by omega)]
  · by_cases h0 : p = 0
    · subst h0; exact other (by rw [c, u0]; exact kv_ne)
    · by_cases h1 : p = 1
      · subst h1; exact other (by rw [b _ (by omega) (by omega), u1]; decide)
      · refine same ?_
        have hlf : leafOf (p : Int) = -1 := by unfold leafOf; rw [if_neg (by omega)]
        unfold madeF
        rw [hlf, if_neg (by decide), if_neg (by decide)]
        exact below_congr (T := ofF fixA) (U := ofF fixB) (p := p) fun i hi => by rw [e (4 * p + 1 + i) (by omega) (by omega), e' (4 * p + 1 + i) (by omega) (by omega) (by omega)]
theorem fix_8 : madeF fixB (ofF fixB) 8 = [0, 120] := by
  unfold madeF leafOf
  rw [if_pos (by decide), if_pos (by decide)]
  show 0 :: fixB.getD 3 default = _
  rw [fixB_3]
theorem fix_0 : (madeF fixA (ofF fixA) 0).length = 129 := by
  unfold madeF leafOf
  rw [if_neg (by decide)]
  unfold belowF; rw [if_pos (by omega)]; exact belowTo_len (ofF_len _) (by omega) 4 (by omega)
theorem fix_21 : madeF fixA (ofF fixA) 21 = [] := by
  unfold madeF leafOf
  rw [if_neg (by decide)]
  unfold belowF; rw [if_neg (by omega)]
end Go.Proofs.Ytpamepepibnlfaa.Cl
