/- SHA-256 in plain Lean, once more: what the reference's words come to. Nothing here speaks of a program. -/
import Derived.Test.YthhlcdacmlnjdaaGreatShM
import Derived.Test.YthhlcdacmlnjdaaGreatKf
namespace Go.Aw.Sha
open Go.Aw
set_option linter.unusedVariables false
set_option linter.unusedSimpArgs false
theorem u64_small {x : Nat} (h : x < M) : x % md .u64 = x := Nat.mod_eq_of_lt (Nat.lt_of_lt_of_le h (by decide))
theorem u64_ok {x : Nat} (h : x < 18446744073709551616) : x % md .u64 = x := Nat.mod_eq_of_lt h
theorem turn_eq {x k : Nat} (hx : x < M) (hk : 1 ≤ k ∧ k ≤ 32) : (x / 2 ^ k) % md .u64 ||| (((x * 2 ^ (32 - k)) % md .u64) % 4294967296) % md .u64 = rotr x k := by
  have h1 : x / 2 ^ k < M := Nat.lt_of_le_of_lt (Nat.div_le_self _ _) hx
  have h2 : 2 ^ (32 - k) ≤ 2 ^ 32 := Nat.pow_le_pow_right (by decide) (by omega)
  have h3 : x * 2 ^ (32 - k) < 18446744073709551616 := Nat.lt_of_le_of_lt (Nat.mul_le_mul_left x h2) (by simp only [M] at hx; omega)
  rw [u64_small h1, u64_ok h3, u64_small (Nat.mod_lt _ (by decide))]
  rfl
theorem or_disjoint {a b i : Nat} (hb : b < 2 ^ i) : 2 ^ i * a ||| b = 2 ^ i * a + b := (Nat.two_pow_add_eq_or_of_lt hb a).symm
theorem word4_eq {b : List Nat} {t : Nat} {b0 b1 b2 b3 : Nat} (h0 : (b.drop (4 * t)).getD 0 default = b0) (h1 : (b.drop (4 * t)).getD 1 default = b1) (h2 : (b.drop (4 * t)).getD 2 default = b2) (h3 : (b.drop (4 * t)).getD 3 default = b3)
    (k0 : b0 < 256) (k1 : b1 < 256) (k2 : b2 < 256) (k3 : b3 < 256) : word4 b t = 16777216 * b0 + 65536 * b1 + 256 * b2 + b3 := by
  unfold word4 o32
  rw [h0, h1, h2, h3]
  have e0 : b0 % M * 2 ^ 24 % M = 16777216 * b0 := by rw [Nat.mod_eq_of_lt (a := b0) (by show _ < 4294967296; omega), Nat.mod_eq_of_lt (by show _ < 4294967296; simp only [Nat.reducePow]; omega)]; simp only [Nat.reducePow]; omega
  have e1 : b1 % M * 2 ^ 16 % M = 65536 * b1 := by rw [Nat.mod_eq_of_lt (a := b1) (by show _ < 4294967296; omega), Nat.mod_eq_of_lt (by show _ < 4294967296; simp only [Nat.reducePow]; omega)]; simp only [Nat.reducePow]; omega
  have e2 : b2 % M * 2 ^ 8 % M = 256 * b2 := by rw [Nat.mod_eq_of_lt (a := b2) (by show _ < 4294967296; omega), Nat.mod_eq_of_lt (by show _ < 4294967296; simp only [Nat.reducePow]; omega)]; simp only [Nat.reducePow]; omega
  have e3 : b3 % M % M = b3 := by show b3 % 4294967296 % 4294967296 = _; omega
  have m0 : 16777216 * b0 % M = 16777216 * b0 := by show _ % 4294967296 = _; omega
  have m1 : 65536 * b1 % M = 65536 * b1 := by show _ % 4294967296 = _; omega
  have m2 : 256 * b2 % M = 256 * b2 := by show _ % 4294967296 = _; omega
  have o1 : 16777216 * b0 ||| 65536 * b1 = 16777216 * b0 + 65536 * b1 := or_disjoint (i := 24) (a := b0) (b := 65536 * b1) (by show _ < 16777216; omega)
  have m3 : (16777216 * b0 + 65536 * b1) % M = 65536 * (256 * b0 + b1) := by show _ % 4294967296 = _; omega
  have o2 : 65536 * (256 * b0 + b1) ||| 256 * b2 = 65536 * (256 * b0 + b1) + 256 * b2 := or_disjoint (i := 16) (a := 256 * b0 + b1) (b := 256 * b2) (by show _ < 65536; omega)
  have m4 : (65536 * (256 * b0 + b1) + 256 * b2) % M = 256 * (65536 * b0 + 256 * b1 + b2) := by show _ % 4294967296 = _; omega
  have o3 : 256 * (65536 * b0 + 256 * b1 + b2) ||| b3 = 256 * (65536 * b0 + 256 * b1 + b2) + b3 := or_disjoint (i := 8) (a := 65536 * b0 + 256 * b1 + b2) (b := b3) k3
  rw [e0, e1, e2, m0, m1, m2, o1, m3, o2, m4]
  rw [e3, o3]
  omega
theorem x32_eq {a b : Nat} (ha : a < M) (hb : b < M) : a % md .u64 ^^^ b % md .u64 = x32 a b := by
  unfold x32; rw [u64_small ha, u64_small hb, Nat.mod_eq_of_lt ha, Nat.mod_eq_of_lt hb]
theorem a32_eq {a b : Nat} (ha : a < M) (hb : b < M) : a % md .u64 &&& b % md .u64 = a32 a b := by
  unfold a32; rw [u64_small ha, u64_small hb, Nat.mod_eq_of_lt ha, Nat.mod_eq_of_lt hb]
theorem n32_eq {a : Nat} (ha : a < M) : (4294967295 + (md .u64 - a % md .u64)) % md .u64 = n32 a := by
  have h1 : a % md .u64 = a := u64_small ha
  have h2 : n32 a = 4294967295 - a := by
    unfold n32
    rw [Nat.mod_eq_of_lt ha]
    have key : ∀ a : Nat, a < 2 ^ 32 → (2 ^ 32 - 1) ^^^ a = 2 ^ 32 - 1 - a := fun a ha => by
      apply Nat.eq_of_testBit_eq
      intro i
      rw [Nat.testBit_xor, Nat.testBit_two_pow_sub_one, show 2 ^ 32 - 1 - a = 2 ^ 32 - (a + 1) by omega, Nat.testBit_two_pow_sub_succ ha]
      by_cases hi : i < 32
      · simp [hi]
      · simp [hi]; exact Nat.testBit_lt_two_pow (Nat.lt_of_lt_of_le ha (Nat.pow_le_pow_right (by decide) (by omega)))
    exact key a ha
  rw [h1, h2]
  simp only [M] at ha
  simp only [md]; omega
theorem sig_eq {x i j d : Nat} (hx : x < M) (hi : i ≤ 32) (hj : j ≤ 32) : (rotr x i % md .u64 ^^^ rotr x j % md .u64) % md .u64 ^^^ x / d % md .u64 % md .u64 = x32 (x32 (rotr x i) (rotr x j)) (x / d) := by
  have hd : x / d < M := Nat.lt_of_le_of_lt (Nat.div_le_self _ _) hx
  rw [x32_eq (rotr_lt hx hi) (rotr_lt hx hj), u64_small hd, x32_eq (x32_lt _ _) hd]
theorem wordN_eq {x y p q : Nat} (hx : x < M) (hy : y < M) (hp : p < M) (hq : q < M) :
    (((p + x32 (x32 (rotr x 7) (rotr x 18)) (x / 2 ^ 3)) % M + q) % M + x32 (x32 (rotr y 17) (rotr y 19)) (y / 2 ^ 10)) % M =
    (((p + ((rotr x (Int.toNat 7) % md .u64 ^^^ rotr x (Int.toNat 18) % md .u64) % md .u64 ^^^ x / 8 % md .u64 % md .u64)) % md .u64 + q) % md .u64 +
      ((rotr y (Int.toNat 17) % md .u64 ^^^ rotr y (Int.toNat 19) % md .u64) % md .u64 ^^^ y / 1024 % md .u64 % md .u64)) % md .u64 % 4294967296 := by
  have e7 : Int.toNat 7 = 7 := rfl
  have e18 : Int.toNat 18 = 18 := rfl
  have e17 : Int.toNat 17 = 17 := rfl
  have e19 : Int.toNat 19 = 19 := rfl
  rw [e7, e18, e17, e19, sig_eq hx (by decide) (by decide), sig_eq hy (by decide) (by decide)]
  have hs := x32_lt (x32 (rotr x 7) (rotr x 18)) (x / 8)
  have hr := x32_lt (x32 (rotr y 17) (rotr y 19)) (y / 1024)
  have d3 : x / 2 ^ 3 = x / 8 := rfl
  have d10 : y / 2 ^ 10 = y / 1024 := rfl
  rw [d3, d10]
  generalize x32 (x32 (rotr x 7) (rotr x 18)) (x / 8) = s at *
  generalize x32 (x32 (rotr y 17) (rotr y 19)) (y / 1024) = r at *
  simp only [M] at *
  simp only [md]
  omega
/-- one round -/
theorem step_eq {a b c d e f g h k w : Nat} (ha : a < M) (hb : b < M) (hc : c < M) (hd : d < M) (he : e < M) (hf : f < M) (hg : g < M) (hh : h < M) (hk : k < M) (hw : w < M) {S Ch X R Mj : Nat}
    (hS : S = (rotr e (Int.toNat 6) % md .u64 ^^^ rotr e (Int.toNat 11) % md .u64) % md .u64 ^^^ rotr e (Int.toNat 25) % md .u64)
    (hC : Ch = (e % md .u64 &&& f % md .u64) % md .u64 ^^^ ((4294967295 + (md .u64 - e % md .u64)) % md .u64 % md .u64 &&& g % md .u64) % md .u64)
    (hX : X = ((((h + S) % md .u64 + Ch) % md .u64 + k) % md .u64 + w) % md .u64 % 4294967296)
    (hR : R = (rotr a (Int.toNat 2) % md .u64 ^^^ rotr a (Int.toNat 13) % md .u64) % md .u64 ^^^ rotr a (Int.toNat 22) % md .u64)
    (hM : Mj = ((a % md .u64 &&& b % md .u64) % md .u64 ^^^ (a % md .u64 &&& c % md .u64) % md .u64) % md .u64 ^^^ (b % md .u64 &&& c % md .u64) % md .u64) :
    step ⟨a, b, c, d, e, f, g, h⟩ k w = ⟨((X + R) % md .u64 + Mj) % md .u64 % 4294967296, a, b, c, (d + X) % md .u64 % 4294967296, e, f, g⟩ := by
  have n32_lt : n32 e < M := Nat.xor_lt_two_pow (n := 32) (by decide) (Nat.mod_lt _ (by decide))
  have t2 : Int.toNat 2 = 2 := rfl
  have t6 : Int.toNat 6 = 6 := rfl
  have t11 : Int.toNat 11 = 11 := rfl
  have t13 : Int.toNat 13 = 13 := rfl
  have t22 : Int.toNat 22 = 22 := rfl
  have t25 : Int.toNat 25 = 25 := rfl
  rw [t6, t11, t25, x32_eq (rotr_lt he (by decide)) (rotr_lt he (by decide)), x32_eq (x32_lt _ _) (rotr_lt he (by decide))] at hS
  rw [t2, t13, t22, x32_eq (rotr_lt ha (by decide)) (rotr_lt ha (by decide)), x32_eq (x32_lt _ _) (rotr_lt ha (by decide))] at hR
  rw [n32_eq he, a32_eq he hf, a32_eq n32_lt hg, x32_eq (a32_lt _ _) (a32_lt _ _)] at hC
  rw [a32_eq ha hb, a32_eq ha hc, a32_eq hb hc, x32_eq (a32_lt _ _) (a32_lt _ _), x32_eq (x32_lt _ _) (a32_lt _ _)] at hM
  have h1 := x32_lt (x32 (rotr e 6) (rotr e 11)) (rotr e 25)
  have h2 := x32_lt (a32 e f) (a32 (n32 e) g)
  have h3 := x32_lt (x32 (rotr a 2) (rotr a 13)) (rotr a 22)
  have h4 := x32_lt (x32 (a32 a b) (a32 a c)) (a32 b c)
  unfold step stepX stepY
  simp only
  rw [← hS, ← hC, ← hR, ← hM]
  rw [← hS] at h1; rw [← hC] at h2; rw [← hR] at h3; rw [← hM] at h4
  clear hS hC hR hM
  subst hX
  simp only [M] at *
  simp only [md]
  refine V8.mk.injEq .. |>.mpr ⟨by omega, rfl, rfl, rfl, by omega, rfl, rfl, rfl⟩
theorem spreadTo_stay (b : List Nat) (t i : Nat) (h : i < t) : ∀ k, (spreadTo b (t + k)).getD i default = (spreadTo b t).getD i default
  | 0 => rfl
  | k + 1 => by
    rw [← spreadTo_stay b t i h k, ← Nat.add_assoc]
    rw [spreadTo, List.getD_eq_getElem?_getD, List.getD_eq_getElem?_getD, List.getElem?_set_ne (by omega)]
theorem consts_lt (i : Nat) : consts.getD i default < M := by
  rcases Nat.lt_or_ge i 64 with h | h
  · have : ∀ i, i < 64 → consts.getD i default < M := by decide
    exact this i h
  · rw [List.getD_eq_getElem?_getD, List.getElem?_eq_none (by rw [consts_len]; exact h)]; decide
theorem lenB {N i : Nat} (hN : N < 18446744073709551616) (hi : i < 8) : ((N * 256 ^ i) % 18446744073709551616 / 72057594037927936) % 256 = (N % 18446744073709551616 / 2 ^ (8 * (7 - i))) % 256 := by
  have h : i = 0 ∨ i = 1 ∨ i = 2 ∨ i = 3 ∨ i = 4 ∨ i = 5 ∨ i = 6 ∨ i = 7 := by omega
  rcases h with rfl | rfl | rfl | rfl | rfl | rfl | rfl | rfl
  all_goals simp only [Nat.reducePow, Nat.reduceMul, Nat.reduceSub]
  all_goals omega
end Go.Aw.Sha
