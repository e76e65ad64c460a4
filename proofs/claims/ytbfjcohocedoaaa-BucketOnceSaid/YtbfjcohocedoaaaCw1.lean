/- wire in plain Lean: a number's bytes, and the number that bytes begin with -/
import Derived.Test.YtbfjcohocedoaaaKw
namespace Go.Proofs.Ytbfjcohocedoaaa.Wi
open Go Go.RowKit Go.Aw
set_option linter.unusedVariables false
set_option linter.unusedSimpArgs false
/-- a number's bytes, the greatest ahead; at most so many -/
def beF : Nat → Nat → List Nat
  | 0, _ => []
  | f + 1, x => if x = 0 then [] else beF f (x / 256) ++ [x % 256]
def be (x : Nat) : List Nat := beF 8 x
def numB (x : Nat) : List Nat := (be x).length :: be x
theorem beF_zero : ∀ f, beF f 0 = []
  | 0 => rfl
  | _ + 1 => rfl
theorem beF_le : ∀ f x, (beF f x).length ≤ f
  | 0, _ => Nat.le_refl _
  | f + 1, x => by
    rw [beF]
    split
    · exact Nat.zero_le _
    · have := beF_le f (x / 256)
      rw [List.length_append, List.length_singleton]; omega
theorem beF_byte : ∀ f x, ∀ b ∈ beF f x, b < 256
  | 0, _ => fun b h => by cases h
  | f + 1, x => fun b h => by
    rw [beF] at h
    split at h
    · cases h
    · rcases List.mem_append.1 h with k | k
      · exact beF_byte f _ b k
      · rw [List.mem_singleton.1 k]; exact Nat.mod_lt _ (by decide)
theorem beF_step {f x : Nat} (h : x ≠ 0) : (beF (f + 1) x).length = (beF f (x / 256)).length + 1 := by
  rw [beF, if_neg h, List.length_append, List.length_singleton]
theorem beF_get : ∀ (f x j : Nat), j < (beF f x).length → (beF f x).getD j default = x / 256 ^ ((beF f x).length - 1 - j) % 256
  | 0, x, j, h => by exact absurd h (Nat.not_lt_zero _)
  | f + 1, x, j, h => by
    by_cases hx : x = 0
    · subst hx; rw [beF_zero] at h; exact absurd h (Nat.not_lt_zero _)
    · have hl := beF_step (f := f) hx
      have ih := beF_get f (x / 256) j
      rw [hl]
      rw [beF, if_neg hx] at h ⊢
      rw [List.length_append, List.length_singleton] at h
      by_cases hj : j < (beF f (x / 256)).length
      · rw [List.getD_eq_getElem?_getD, List.getElem?_append_left hj, ← List.getD_eq_getElem?_getD, ih hj, Nat.div_div_eq_div_mul]
        congr 2
        rw [show (beF f (x / 256)).length + 1 - 1 - j = ((beF f (x / 256)).length - 1 - j) + 1 by omega, Nat.pow_succ, Nat.mul_comm]
      · obtain rfl : j = (beF f (x / 256)).length := by omega
        rw [List.getD_eq_getElem?_getD, List.getElem?_append_right (Nat.le_refl _), Nat.sub_self, show (beF f (x / 256)).length + 1 - 1 - (beF f (x / 256)).length = 0 by omega]
        simp
theorem be_take {x j : Nat} (h : j < (be x).length) : (be x).take (j + 1) = (be x).take j ++ [x / 256 ^ ((be x).length - 1 - j) % 256] := by
  show (beF 8 x).take (j + 1) = (beF 8 x).take j ++ [x / 256 ^ ((beF 8 x).length - 1 - j) % 256]
  have h' : j < (beF 8 x).length := h
  rw [← beF_get 8 x j h', List.take_succ_eq_append_getElem h', List.getD_eq_getElem?_getD, List.getElem?_eq_getElem h']; rfl
theorem pow8 (i : Nat) : 2 ^ (8 * i) = 256 ^ i := by rw [Nat.pow_mul]
/-! what bytes say -/
/-- the bytes that are left, and the fault -/
abbrev RS := List Nat × Int
def takeS (n : Nat) (r : RS) : List Nat × RS := if r.2 ≠ 0 then ([], r) else if r.1.length < n then ([], (r.1, 8)) else (r.1.take n, (r.1.drop n, 0))
def mustS (is : Bool) (r : RS) : RS := if r.2 = 0 ∧ is = false then (r.1, 3) else r
def valB (l : List Nat) : Nat := l.foldl (fun n c => n * 256 + c) 0
/-- the number that stands here -/
def numR1 (r : RS) : RS := mustS (decide ((((takeS 1 r).1.getD (0 : Int).toNat default : Nat) : Int) ≤ 8)) (takeS 1 r).2
def numL (r : RS) : List Nat × RS := takeS ((takeS 1 r).1.getD (0 : Int).toNat default) (numR1 r)
def numR2 (r : RS) : RS := mustS (if (numL r).1.length = 0 then true else decide (0 < (((numL r).1.getD (0 : Int).toNat default : Nat) : Int))) (numL r).2
def numS (r : RS) : Nat × RS := if (takeS 1 r).1.length = 0 then (0, (takeS 1 r).2) else (if (numR2 r).2 = 0 then valB (numL r).1 else 0, numR2 r)
def smallS (most : Int) (r : RS) : Int × RS :=
  (if (mustS (decide (0 ≤ most) && decide (((numS r).1 : Int) ≤ most)) (numS r).2).2 = 0 then ((numS r).1 : Int) else 0, mustS (decide (0 ≤ most) && decide (((numS r).1 : Int) ≤ most)) (numS r).2)
theorem take_byte {n : Nat} {r : RS} (h : ∀ b ∈ r.1, b < 256) : (∀ b ∈ (takeS n r).1, b < 256) ∧ ∀ b ∈ (takeS n r).2.1, b < 256 := by
  unfold takeS
  split
  · exact ⟨fun b k => (by cases k), h⟩
  · split
    · exact ⟨fun b k => (by cases k), h⟩
    · exact ⟨fun b k => h b (List.mem_of_mem_take k), fun b k => h b (List.mem_of_mem_drop k)⟩
theorem take_len {n : Nat} {r : RS} : (takeS n r).1.length ≤ n ∧ (takeS n r).1.length ≤ r.1.length ∧ (takeS n r).2.1.length ≤ r.1.length := by
  unfold takeS
  split
  · exact ⟨Nat.zero_le _, Nat.zero_le _, Nat.le_refl _⟩
  · split
    · exact ⟨Nat.zero_le _, Nat.zero_le _, Nat.le_refl _⟩
    · simp only [List.length_take, List.length_drop]; omega
theorem must_1 {is : Bool} {r : RS} : (mustS is r).1 = r.1 := by unfold mustS; split <;> rfl
theorem take_bad {n : Nat} {r : RS} (h : r.2 ≠ 0) : takeS n r = ([], r) := by unfold takeS; rw [if_pos h]
theorem numL_len (r : RS) : (numL r).1.length ≤ 8 := by
  unfold numL
  by_cases h : (takeS 1 r).1.getD (0 : Int).toNat default ≤ 8
  · exact Nat.le_trans take_len.1 h
  · have : (numR1 r).2 ≠ 0 := by
      unfold numR1 mustS
      rw [decide_eq_false (by omega)]
      by_cases k : (takeS 1 r).2.2 = 0
      · rw [if_pos ⟨k, rfl⟩]; exact (by decide : (3 : Int) ≠ 0)
      · rw [if_neg (fun q => k q.1)]; exact k
    rw [take_bad this]; exact Nat.zero_le _
theorem numR1_byte {r : RS} (h : ∀ b ∈ r.1, b < 256) : ∀ b ∈ (numR1 r).1, b < 256 := by
  unfold numR1; rw [must_1]; exact (take_byte h).2
theorem numL_byte {r : RS} (h : ∀ b ∈ r.1, b < 256) : ∀ b ∈ (numL r).1, b < 256 := (take_byte (numR1_byte h)).1
theorem numS_byte {r : RS} (h : ∀ b ∈ r.1, b < 256) : ∀ b ∈ (numS r).2.1, b < 256 := by
  unfold numS
  split
  · exact (take_byte h).2
  · show ∀ b ∈ (numR2 r).1, b < 256
    unfold numR2; rw [must_1]; exact (take_byte (numR1_byte h)).2
theorem numS_len (r : RS) : (numS r).2.1.length ≤ r.1.length := by
  unfold numS
  split
  · exact take_len.2.2
  · show (numR2 r).1.length ≤ _
    unfold numR2
    rw [must_1]
    have h1 : (numL r).2.1.length ≤ (numR1 r).1.length := take_len.2.2
    have h2 : (numR1 r).1 = (takeS 1 r).2.1 := by unfold numR1; exact must_1
    have h3 : (takeS 1 r).2.1.length ≤ r.1.length := take_len.2.2
    rw [h2] at h1; omega
theorem valB_snoc (l : List Nat) (c : Nat) : valB (l ++ [c]) = valB l * 256 + c := by unfold valB; rw [List.foldl_append]; rfl
theorem valB_lt : ∀ (n : Nat) (l : List Nat), l.length = n → (∀ b ∈ l, b < 256) → valB l < 256 ^ n
  | 0, l, h, _ => by rw [List.eq_nil_of_length_eq_zero h]; decide
  | n + 1, l, h, hb => by
    obtain ⟨l', c, rfl⟩ : ∃ l' c, l = l' ++ [c] := ⟨l.dropLast, l.getLast (by intro e; rw [e] at h; cases h), (List.dropLast_concat_getLast _).symm⟩
    rw [List.length_append, List.length_singleton] at h
    have ih := valB_lt n l' (by omega) fun b k => hb b (List.mem_append_left _ k)
    have hc := hb c (List.mem_append_right _ List.mem_cons_self)
    rw [valB_snoc, Nat.pow_succ]; omega
theorem valB_fit {l : List Nat} (h : l.length ≤ 8) (hb : ∀ b ∈ l, b < 256) : valB l < 18446744073709551616 := by
  have h1 := valB_lt l.length l rfl hb
  have h2 : 256 ^ l.length ≤ 256 ^ 8 := Nat.pow_le_pow_right (by decide) h
  exact Nat.lt_of_lt_of_le h1 h2
theorem numS_fit {r : RS} (h : ∀ b ∈ r.1, b < 256) : (numS r).1 < 18446744073709551616 := by
  unfold numS
  split
  · exact (by decide : 0 < 18446744073709551616)
  · dsimp only
    split
    · exact valB_fit (numL_len r) (numL_byte h)
    · decide
/-- one byte more, as the machine does it -/
theorem byte_in {a c M : Nat} (ha : a * 256 + c < M) (hc : c < 256) : ((a * 256) % M % M ||| c % M % M) = a * 256 + c := by
  have h1 : c < M := by omega
  have h2 : a * 256 < M := Nat.lt_of_le_of_lt (Nat.le_add_right _ c) ha
  rw [Nat.mod_eq_of_lt h1, Nat.mod_eq_of_lt h1, Nat.mod_eq_of_lt h2, Nat.mod_eq_of_lt h2]
  have := Nat.shiftLeft_add_eq_or_of_lt (i := 8) (show c < 2 ^ 8 from hc) a
  rw [Nat.shiftLeft_eq] at this
  exact this.symm
end Go.Proofs.Ytbfjcohocedoaaa.Wi
