/- keys: which may be, their points, parts and leaves; SHA-256 in plain Lean, once more: what the reference's words come to. Nothing here speaks of a program. -/
import Derived.Test.YtlaeldgebecppaaGreatPT24
import Derived.Test.YtlaeldgebecppaaGreatPT19
import Derived.Test.YtlaeldgebecppaaGreatPT21
import Derived.Test.YtlaeldgebecppaaGreatPT05
namespace Go.Proofs.YtlaeldgebecppaaGreat.Rg
open Go Go.RowKit Go.Aw Go.Aw.Sha Go.Aw.Cart Go.Aw.Ord Go.Sort Go.Proofs.YtlaeldgebecppaaGreat.Ca Go.Proofs.YtlaeldgebecppaaGreat.Sh
set_option linter.unusedVariables false
set_option linter.unusedSimpArgs false
set_option maxRecDepth 8000
set_option maxHeartbeats 4000000
attribute [local irreducible] sum
abbrev strV (k : List Nat) : AV := .p (.v (.string (strOf k)))
def byteOk (c : Nat) : Bool := decide ((97 ≤ c ∧ c ≤ 122) ∨ (48 ≤ c ∧ c ≤ 57) ∨ c = 45)
def keyR (k : List Nat) : Bool := decide ((1 ≤ k.length ∧ k.length ≤ 20) ∧ ∀ c ∈ k, byteOk c = true)
def partF (k : List Nat) : Nat := pointF k / 2305843009213693952
def leafF (k : List Nat) : Nat := pointF k / 144115188075855872 % 16
theorem point_lt (k : List Nat) : pointF k < 18446744073709551616 := pv_fit (sum_okB k) (Nat.le_refl 8)
theorem part_top (k : List Nat) : (sum k).getD 0 default / 32 = partF k := by
  unfold partF pointF
  have h := fun j => getD_ok (sum_okB k) j
  have h0 := h 0; have h1 := h 1; have h2 := h 2; have h3 := h 3; have h4 := h 4; have h5 := h 5; have h6 := h 6; have h7 := h 7
  simp only [pv]
  omega
theorem all_get {k : List Nat} : (∀ c ∈ k, byteOk c = true) ↔ ∀ j, j < k.length → byteOk (k.getD j default) = true := by
  constructor
  · intro h j hj
    exact h _ (by rw [getD_at hj]; exact List.getElem_mem _)
  · intro h c hc
    obtain ⟨j, hj, rfl⟩ := getD_mem hc
    exact h j hj
namespace Y1
theorem lopC {C : Ctx} {o : Oper} {σ : St} {e : Eff} {ro : Nat → Bool} (h : LOp C o σ e ro := by
    first | (apply lop_len_sb; (focus rfl); (focus exact inferInstance); (focus rfl); (focus rfl)) | (apply lop_ix_sb; (focus rfl); (focus exact inferInstance); (focus rfl); (focus assumption); (focus rfl); (focus omega); (focus omega); (focus rfl)) | exact P6.lopC | fail) : LOp C o σ e ro := h
section steps
variable {C : Ctx} {ops : Array Oper} {o : Oper} {rest : List Oper} {K : St → Prop} {σ : St} {e : Eff} {ro : Nat → Bool} {W : List (Nat × Nat)} {i : Nat}
theorem rnC {d : Nat} (hk : RunN C ops rest K (e.app (some d) σ)) (hg : Guard ops σ o true := by first | exact gd_n rfl rfl | exact gd_t rfl rfl rfl rfl | exact gd_t rfl rfl rfl (by assumption)) (hd : o.dst = some d := by rfl) (h : LOp C o σ e ro := by exact lopC) : RunN C ops (o :: rest) K σ := rn_any hg hd h hk
end steps
end Y1
open Y1
theorem isByte_w (c : Nat) : PCall Tryz.prog 178 [.p (.k .u8 (c : Int))] (.p (.b (byteOk c))) := by
  refine pcall_of Tryz.func178 rfl (fun w0 F S0 M0 => ?_)
  unfold byteOk
  as_aux_lemma =>
    repeat' (first | refine rnC ?_ | refine rnSB ?_ | refine rnG ?_ | refine rnU ?_ | ((fail_if_success (refine rnKn ?_)); refine rnP ?_ ?_ <;> (intro hq; try (have hq' := hq; simp only [hqs] at hq'))) | refine rkC ?_ | refine rkSB ?_ | refine rkF ?_ | refine rkU ?_ | ((fail_if_success (refine rkKn ?_)); refine rkP ?_ ?_ <;> (intro hq; try (have hq' := hq; simp only [hqs] at hq'))) | refine stp ?_ | refine aws_draws [] mixed (by kernel_rfl) ?_ | refine ifT ?_ | refine ifF ?_ | (refine ifQ ?_ ?_ <;> (try (intro hn))) | (refine ifB ?_ ?_ <;> (intro hq; try (have hq' := hq; simp only [hqs] at hq'))))
    all_goals refine rt1 rfl rfl finS_p (rb ?_)
    all_goals first | exact decide_eq_decide.2 (by omega) | exact decide_eq_true (by omega) | exact decide_eq_false (by omega)
instance isByte_i {c : Nat} : PC Tryz.prog 178 [.p (.k .u8 (c : Int))] True (.p (.b (byteOk c))) := ⟨fun _ => isByte_w c⟩
theorem keyRightL_w (k : List Nat) (hk : okB k) (hl : k.length ≤ 9223372036854775807) : PCall Tryz.prog 107 [strV k] (.p (.b (keyR k))) := by
  refine pcall_of Tryz.func107 rfl (fun w0 F S0 M0 => ?_)
  unfold keyR
  rw [decide_eq_decide.2 (and_congr Iff.rfl all_get)]
  repeat' (first | refine rnC ?_ | refine rnSB ?_ | refine rnG ?_ | refine rnU ?_ | ((fail_if_success (refine rnKn ?_)); refine rnP ?_ ?_ <;> (intro hq; try (have hq' := hq; simp only [hqs] at hq'))) | refine rkC ?_ | refine rkSB ?_ | refine rkF ?_ | refine rkU ?_ | ((fail_if_success (refine rkKn ?_)); refine rkP ?_ ?_ <;> (intro hq; try (have hq' := hq; simp only [hqs] at hq'))) | refine stp ?_ | refine ifT ?_ | refine ifF ?_ | (refine ifQ ?_ ?_ <;> (try (intro hn))) | (refine ifB ?_ ?_ <;> (intro hq; try (have hq' := hq; simp only [hqs] at hq'))))
  refine aws_loopS [2, 3, 6, 7, 8, 9, 10, 11, 12, 13, 14, 15, 16, 17, 18] [] (fun (i : Nat) => [(6, .p (.i i))]) (fun _ => []) (fun i => i ≤ k.length ∧ i ≤ 20 ∧ ∀ j, j < i → byteOk (k.getD j default) = true) (fun i => k.length - i) 0 ⟨Nat.zero_le _, Nat.zero_le _, fun j hj => absurd hj (Nat.not_lt_zero _)⟩ (by exact knA) (by exact knA) ?_
  rintro i β γ ⟨hi, hi2, hx⟩
  by_cases hil : i < k.length
  · have d1 : decide ((i : Int) < (k.length : Int)) = true := decide_eq_true (by omega)
    have ei : (i : Int).toNat = i := Int.toNat_natCast i
    by_cases h20 : 20 ≤ i
    · have d2 : decide (20 ≤ (i : Int)) = true := decide_eq_true (by omega)
      rw [decide_eq_false (fun q => by omega)]
      as_aux_lemma =>
        repeat' (first | refine rnC ?_ | refine rnSB ?_ | refine rnG ?_ | refine rnU ?_ | ((fail_if_success (refine rnKn ?_)); refine rnP ?_ ?_ <;> (intro hq; try (have hq' := hq; simp only [hqs] at hq'))) | refine rkC ?_ | refine rkSB ?_ | refine rkF ?_ | refine rkU ?_ | ((fail_if_success (refine rkKn ?_)); refine rkP ?_ ?_ <;> (intro hq; try (have hq' := hq; simp only [hqs] at hq'))) | refine stp ?_ | refine ifT ?_ | refine ifF ?_ | (refine ifQ ?_ ?_ <;> (try (intro hn))) | (refine ifB ?_ ?_ <;> (intro hq; try (have hq' := hq; simp only [hqs] at hq'))))
        exact rt1 rfl rfl finS_p rfl
    · have d2 : decide (20 ≤ (i : Int)) = false := decide_eq_false (by omega)
      cases hb : byteOk (k.getD (i : Int).toNat default) with
      | true =>
        have d3 : (!byteOk (k.getD (i : Int).toNat default)) = false := by rw [hb]; rfl
        rw [ei] at hb
        repeat' (first | refine rnC ?_ | refine rnSB ?_ | refine rnG ?_ | refine rnU ?_ | ((fail_if_success (refine rnKn ?_)); refine rnP ?_ ?_ <;> (intro hq; try (have hq' := hq; simp only [hqs] at hq'))) | refine rkC ?_ | refine rkSB ?_ | refine rkF ?_ | refine rkU ?_ | ((fail_if_success (refine rkKn ?_)); refine rkP ?_ ?_ <;> (intro hq; try (have hq' := hq; simp only [hqs] at hq'))) | refine stp ?_ | refine ifT ?_ | refine ifF ?_ | (refine ifQ ?_ ?_ <;> (try (intro hn))) | (refine ifB ?_ ?_ <;> (intro hq; try (have hq' := hq; simp only [hqs] at hq'))))
        refine ⟨i + 1, _, by omega, ⟨by omega, by omega, fun j hj => ?_⟩, .refl, by exact frA⟩
        by_cases e : j = i
        · rw [e]; exact hb
        · exact hx j (by omega)
      | false =>
        have d3 : (!byteOk (k.getD (i : Int).toNat default)) = true := by rw [hb]; rfl
        rw [ei] at hb
        rw [decide_eq_false (fun q => by have := q.2 i hil; rw [hb] at this; cases this)]
        as_aux_lemma =>
          repeat' (first | refine rnC ?_ | refine rnSB ?_ | refine rnG ?_ | refine rnU ?_ | ((fail_if_success (refine rnKn ?_)); refine rnP ?_ ?_ <;> (intro hq; try (have hq' := hq; simp only [hqs] at hq'))) | refine rkC ?_ | refine rkSB ?_ | refine rkF ?_ | refine rkU ?_ | ((fail_if_success (refine rkKn ?_)); refine rkP ?_ ?_ <;> (intro hq; try (have hq' := hq; simp only [hqs] at hq'))) | refine stp ?_ | refine ifT ?_ | refine ifF ?_ | (refine ifQ ?_ ?_ <;> (try (intro hn))) | (refine ifB ?_ ?_ <;> (intro hq; try (have hq' := hq; simp only [hqs] at hq'))))
          exact rt1 rfl rfl finS_p rfl
  · have d1 : decide ((i : Int) < (k.length : Int)) = false := decide_eq_false (by omega)
    rw [decide_eq_decide.2 (show ((1 ≤ k.length ∧ k.length ≤ 20) ∧ ∀ j, j < k.length → byteOk (k.getD j default) = true) ↔ 0 < (k.length : Int) from ⟨fun q => by omega, fun q => ⟨by omega, fun j hj => hx j (by omega)⟩⟩)]
    as_aux_lemma =>
      repeat' (first | refine rnC ?_ | refine rnSB ?_ | refine rnG ?_ | refine rnU ?_ | ((fail_if_success (refine rnKn ?_)); refine rnP ?_ ?_ <;> (intro hq; try (have hq' := hq; simp only [hqs] at hq'))) | refine rkC ?_ | refine rkSB ?_ | refine rkF ?_ | refine rkU ?_ | ((fail_if_success (refine rkKn ?_)); refine rkP ?_ ?_ <;> (intro hq; try (have hq' := hq; simp only [hqs] at hq'))) | refine stp ?_ | refine ifT ?_ | refine ifF ?_ | (refine ifQ ?_ ?_ <;> (try (intro hn))) | (refine ifB ?_ ?_ <;> (intro hq; try (have hq' := hq; simp only [hqs] at hq'))))
      exact rt1 rfl rfl finS_p rfl
theorem keyPoint_w (k : List Nat) (hk : okB k) (hl : k.length ≤ 1000000) : PCall Tryz.prog 185 [strV k] (.p (.k .u64 (pointF k : Int))) := by
  refine pcall_of Tryz.func185 rfl (fun w0 F S0 M0 => ?_)
  haveI : ∀ ex, PC Tryz.prog 210 [bytesN k ex] True (.p (.k .u64 (pointF k : Int))) := fun ex => ⟨fun _ => shaPoint_w k ex (by omega)⟩
  as_aux_lemma =>
    repeat' (first | refine rnC ?_ | refine rnSB ?_ | refine rnG ?_ | refine rnU ?_ | ((fail_if_success (refine rnKn ?_)); refine rnP ?_ ?_ <;> (intro hq; try (have hq' := hq; simp only [hqs] at hq'))) | refine rkC ?_ | refine rkSB ?_ | refine rkF ?_ | refine rkU ?_ | ((fail_if_success (refine rkKn ?_)); refine rkP ?_ ?_ <;> (intro hq; try (have hq' := hq; simp only [hqs] at hq'))) | refine stp ?_ | refine ifT ?_ | refine ifF ?_ | (refine ifQ ?_ ?_ <;> (try (intro hn))) | (refine ifB ?_ ?_ <;> (intro hq; try (have hq' := hq; simp only [hqs] at hq'))))
    exact rt1 rfl rfl finS_p rfl
theorem keyAt_w (k : List Nat) (hk : okB k) (hl : k.length ≤ 1000000) : PCall Tryz.prog 137 [strV k] (.tup [.one (.p (.i (partF k : Int))), .one (.p (.i (leafF k : Int)))]) := by
  refine pcall_of Tryz.func137 rfl (fun w0 F S0 M0 => ?_)
  have hp := point_lt k
  unfold partF leafF
  obtain ⟨p, hP⟩ : ∃ p, p = pointF k := ⟨_, rfl⟩
  haveI : PC Tryz.prog 185 [strV k] True (.p (.k .u64 (p : Int))) := ⟨fun _ => by rw [hP]; exact keyPoint_w k hk hl⟩
  rw [← hP] at hp ⊢
  have e1 : IntKind.i64.wrap ((p / 2 ^ (61 : Int).toNat : Nat) : Int) = ((p / 2305843009213693952 : Nat) : Int) := by
    rw [show p / 2 ^ (61 : Int).toNat = p / 2305843009213693952 from rfl]
    exact IntWalk.i64_in _ (by omega)
  have e2 : IntKind.i64.wrap ((p / 2 ^ (57 : Int).toNat % md .u64 &&& 15 % md .u64 : Nat) : Int) = ((p / 144115188075855872 % 16 : Nat) : Int) := by
    have h1 : p / 2 ^ (57 : Int).toNat % md .u64 = p / 144115188075855872 := Nat.mod_eq_of_lt (show p / 144115188075855872 < 18446744073709551616 by omega)
    have h2 : 15 % md .u64 = 2 ^ 4 - 1 := rfl
    rw [h1, h2, Nat.and_two_pow_sub_one_eq_mod]
    exact IntWalk.i64_in _ (by omega)
  rw [← e1, ← e2]
  as_aux_lemma =>
    repeat' (first | refine rnC ?_ | refine rnSB ?_ | refine rnG ?_ | refine rnU ?_ | ((fail_if_success (refine rnKn ?_)); refine rnP ?_ ?_ <;> (intro hq; try (have hq' := hq; simp only [hqs] at hq'))) | refine rkC ?_ | refine rkSB ?_ | refine rkF ?_ | refine rkU ?_ | ((fail_if_success (refine rkKn ?_)); refine rkP ?_ ?_ <;> (intro hq; try (have hq' := hq; simp only [hqs] at hq'))) | refine stp ?_ | refine ifT ?_ | refine ifF ?_ | (refine ifQ ?_ ?_ <;> (try (intro hn))) | (refine ifB ?_ ?_ <;> (intro hq; try (have hq' := hq; simp only [hqs] at hq'))))
    exact rt2 rfl rfl finS_p rfl finS_p rfl
instance keyAt_i {k : List Nat} : PC Tryz.prog 137 [strV k] (okB k ∧ k.length ≤ 1000000) (.tup [.one (.p (.i (partF k : Int))), .one (.p (.i (leafF k : Int)))]) := ⟨fun h => keyAt_w k h.1 h.2⟩
end Go.Proofs.YtlaeldgebecppaaGreat.Rg
namespace Go.Aw.Sha
open Go.Aw
set_option linter.unusedVariables false
set_option linter.unusedSimpArgs false
theorem u64_small {x : Nat} (h : x < M) : x % md .u64 = x := Nat.mod_eq_of_lt (Nat.lt_of_lt_of_le h (by decide))
theorem u64_ok {x : Nat} (h : x < 18446744073709551616) : x % md .u64 = x := Nat.mod_eq_of_lt h
theorem turn_eq {x k : Nat} (hx : x < M) (hk : 1 ≤ k ∧ k ≤ 32) : (x / 2 ^ k) % md .u64 ||| (((x * 2 ^ (32 - k)) % md .u64) % 4294967296) % md .u64 = rotr x k := by
  have h1 : x / 2 ^ k < M := Nat.lt_of_le_of_lt (Nat.div_le_self _ _) hx
  have h2 : 2 ^ (32 - k) ≤ 2 ^ 32 := Nat.pow_le_pow_right (by decide) (by omega)
  have h3 : x * 2 ^ (32 - k) < 18446744073709551616 := Nat.lt_of_le_of_lt (Nat.mul_le_mul_left x h2) (by simp only [M] at hx; omega)
  rw [u64_small h1, u64_ok h3, u64_small (Nat.mod_lt _ (by decide))]
  rfl
theorem or_disjoint {a b i : Nat} (hb : b < 2 ^ i) : 2 ^ i * a ||| b = 2 ^ i * a + b := (Nat.two_pow_add_eq_or_of_lt hb a).symm
theorem word4_eq {b : List Nat} {t : Nat} {b0 b1 b2 b3 : Nat} (h0 : (b.drop (4 * t)).getD 0 default = b0) (h1 : (b.drop (4 * t)).getD 1 default = b1) (h2 : (b.drop (4 * t)).getD 2 default = b2) (h3 : (b.drop (4 * t)).getD 3 default = b3)
    (k0 : b0 < 256) (k1 : b1 < 256) (k2 : b2 < 256) (k3 : b3 < 256) : word4 b t = 16777216 * b0 + 65536 * b1 + 256 * b2 + b3 := by
  unfold word4 o32
  rw [h0, h1, h2, h3]
  have e0 : b0 % M * 2 ^ 24 % M = 16777216 * b0 := by rw [Nat.mod_eq_of_lt (a := b0) (by show _ < 4294967296; omega), Nat.mod_eq_of_lt (by show _ < 4294967296; simp only [Nat.reducePow]; omega)]; simp only [Nat.reducePow]; omega
  have e1 : b1 % M * 2 ^ 16 % M = 65536 * b1 := by rw [Nat.mod_eq_of_lt (a := b1) (by show _ < 4294967296; omega), Nat.mod_eq_of_lt (by show _ < 4294967296; simp only [Nat.reducePow]; omega)]; simp only [Nat.reducePow]; omega
  have e2 : b2 % M * 2 ^ 8 % M = 256 * b2 := by rw [Nat.mod_eq_of_lt (a := b2) (by show _ < 4294967296; omega), Nat.mod_eq_of_lt (by show _ < 4294967296; simp only [Nat.reducePow]; omega)]; simp only [Nat.reducePow]; omega
  have e3 : b3 % M % M = b3 := by show b3 % 4294967296 % 4294967296 = _; omega
  have m0 : 16777216 * b0 % M = 16777216 * b0 := by show _ % 4294967296 = _; omega
  have m1 : 65536 * b1 % M = 65536 * b1 := by show _ % 4294967296 = _; omega
  have m2 : 256 * b2 % M = 256 * b2 := by show _ % 4294967296 = _; omega
  have o1 : 16777216 * b0 ||| 65536 * b1 = 16777216 * b0 + 65536 * b1 := or_disjoint (i := 24) (a := b0) (b := 65536 * b1) (by show _ < 16777216; omega)
  have m3 : (16777216 * b0 + 65536 * b1) % M = 65536 * (256 * b0 + b1) := by show _ % 4294967296 = _; omega
  have o2 : 65536 * (256 * b0 + b1) ||| 256 * b2 = 65536 * (256 * b0 + b1) + 256 * b2 := or_disjoint (i := 16) (a := 256 * b0 + b1) (b := 256 * b2) (by show _ < 65536; omega)
  have m4 : (65536 * (256 * b0 + b1) + 256 * b2) % M = 256 * (65536 * b0 + 256 * b1 + b2) := by show _ % 4294967296 = _; omega
  have o3 : 256 * (65536 * b0 + 256 * b1 + b2) ||| b3 = 256 * (65536 * b0 + 256 * b1 + b2) + b3 := or_disjoint (i := 8) (a := 65536 * b0 + 256 * b1 + b2) (b := b3) k3
  rw [e0, e1, e2, m0, m1, m2, o1, m3, o2, m4]
  rw [e3, o3]
  omega
theorem x32_eq {a b : Nat} (ha : a < M) (hb : b < M) : a % md .u64 ^^^ b % md .u64 = x32 a b := by
  unfold x32; rw [u64_small ha, u64_small hb, Nat.mod_eq_of_lt ha, Nat.mod_eq_of_lt hb]
theorem a32_eq {a b : Nat} (ha : a < M) (hb : b < M) : a % md .u64 &&& b % md .u64 = a32 a b := by
  unfold a32; rw [u64_small ha, u64_small hb, Nat.mod_eq_of_lt ha, Nat.mod_eq_of_lt hb]
theorem n32_eq {a : Nat} (ha : a < M) : (4294967295 + (md .u64 - a % md .u64)) % md .u64 = n32 a := by
  have h1 : a % md .u64 = a := u64_small ha
  have h2 : n32 a = 4294967295 - a := by
    unfold n32
    rw [Nat.mod_eq_of_lt ha]
    have key : ∀ a : Nat, a < 2 ^ 32 → (2 ^ 32 - 1) ^^^ a = 2 ^ 32 - 1 - a := fun a ha => by
      apply Nat.eq_of_testBit_eq
      intro i
      rw [Nat.testBit_xor, Nat.testBit_two_pow_sub_one, show 2 ^ 32 - 1 - a = 2 ^ 32 - (a + 1) by omega, Nat.testBit_two_pow_sub_succ ha]
      by_cases hi : i < 32
      · simp [hi]
      · simp [hi]; exact Nat.testBit_lt_two_pow (Nat.lt_of_lt_of_le ha (Nat.pow_le_pow_right (by decide) (by omega)))
    exact key a ha
  rw [h1, h2]
  simp only [M] at ha
  simp only [md]; omega
theorem sig_eq {x i j d : Nat} (hx : x < M) (hi : i ≤ 32) (hj : j ≤ 32) : (rotr x i % md .u64 ^^^ rotr x j % md .u64) % md .u64 ^^^ x / d % md .u64 % md .u64 = x32 (x32 (rotr x i) (rotr x j)) (x / d) := by
  have hd : x / d < M := Nat.lt_of_le_of_lt (Nat.div_le_self _ _) hx
  rw [x32_eq (rotr_lt hx hi) (rotr_lt hx hj), u64_small hd, x32_eq (x32_lt _ _) hd]
theorem wordN_eq {x y p q : Nat} (hx : x < M) (hy : y < M) (hp : p < M) (hq : q < M) :
    (((p + x32 (x32 (rotr x 7) (rotr x 18)) (x / 2 ^ 3)) % M + q) % M + x32 (x32 (rotr y 17) (rotr y 19)) (y / 2 ^ 10)) % M =
    (((p + ((rotr x (Int.toNat 7) % md .u64 ^^^ rotr x (Int.toNat 18) % md .u64) % md .u64 ^^^ x / 8 % md .u64 % md .u64)) % md .u64 + q) % md .u64 +
      ((rotr y (Int.toNat 17) % md .u64 ^^^ rotr y (Int.toNat 19) % md .u64) % md .u64 ^^^ y / 1024 % md .u64 % md .u64)) % md .u64 % 4294967296 := by
  have e7 : Int.toNat 7 = 7 := rfl
  have e18 : Int.toNat 18 = 18 := rfl
  have e17 : Int.toNat 17 = 17 := rfl
  have e19 : Int.toNat 19 = 19 := rfl
  rw [e7, e18, e17, e19, sig_eq hx (by decide) (by decide), sig_eq hy (by decide) (by decide)]
  have hs := x32_lt (x32 (rotr x 7) (rotr x 18)) (x / 8)
  have hr := x32_lt (x32 (rotr y 17) (rotr y 19)) (y / 1024)
  have d3 : x / 2 ^ 3 = x / 8 := rfl
  have d10 : y / 2 ^ 10 = y / 1024 := rfl
  rw [d3, d10]
  generalize x32 (x32 (rotr x 7) (rotr x 18)) (x / 8) = s at *
  generalize x32 (x32 (rotr y 17) (rotr y 19)) (y / 1024) = r at *
  simp only [M] at *
  simp only [md]
  omega
/-- one round -/
theorem step_eq {a b c d e f g h k w : Nat} (ha : a < M) (hb : b < M) (hc : c < M) (hd : d < M) (he : e < M) (hf : f < M) (hg : g < M) (hh : h < M) (hk : k < M) (hw : w < M) {S Ch X R Mj : Nat}
    (hS : S = (rotr e (Int.toNat 6) % md .u64 ^^^ rotr e (Int.toNat 11) % md .u64) % md .u64 ^^^ rotr e (Int.toNat 25) % md .u64)
    (hC : Ch = (e % md .u64 &&& f % md .u64) % md .u64 ^^^ ((4294967295 + (md .u64 - e % md .u64)) % md .u64 % md .u64 &&& g % md .u64) % md .u64)
    (hX : X = ((((h + S) % md .u64 + Ch) % md .u64 + k) % md .u64 + w) % md .u64 % 4294967296)
    (hR : R = (rotr a (Int.toNat 2) % md .u64 ^^^ rotr a (Int.toNat 13) % md .u64) % md .u64 ^^^ rotr a (Int.toNat 22) % md .u64)
    (hM : Mj = ((a % md .u64 &&& b % md .u64) % md .u64 ^^^ (a % md .u64 &&& c % md .u64) % md .u64) % md .u64 ^^^ (b % md .u64 &&& c % md .u64) % md .u64) :
    step ⟨a, b, c, d, e, f, g, h⟩ k w = ⟨((X + R) % md .u64 + Mj) % md .u64 % 4294967296, a, b, c, (d + X) % md .u64 % 4294967296, e, f, g⟩ := by
  have n32_lt : n32 e < M := Nat.xor_lt_two_pow (n := 32) (by decide) (Nat.mod_lt _ (by decide))
  have t2 : Int.toNat 2 = 2 := rfl
  have t6 : Int.toNat 6 = 6 := rfl
  have t11 : Int.toNat 11 = 11 := rfl
  have t13 : Int.toNat 13 = 13 := rfl
  have t22 : Int.toNat 22 = 22 := rfl
  have t25 : Int.toNat 25 = 25 := rfl
  rw [t6, t11, t25, x32_eq (rotr_lt he (by decide)) (rotr_lt he (by decide)), x32_eq (x32_lt _ _) (rotr_lt he (by decide))] at hS
  rw [t2, t13, t22, x32_eq (rotr_lt ha (by decide)) (rotr_lt ha (by decide)), x32_eq (x32_lt _ _) (rotr_lt ha (by decide))] at hR
  rw [n32_eq he, a32_eq he hf, a32_eq n32_lt hg, x32_eq (a32_lt _ _) (a32_lt _ _)] at hC
  rw [a32_eq ha hb, a32_eq ha hc, a32_eq hb hc, x32_eq (a32_lt _ _) (a32_lt _ _), x32_eq (x32_lt _ _) (a32_lt _ _)] at hM
  have h1 := x32_lt (x32 (rotr e 6) (rotr e 11)) (rotr e 25)
  have h2 := x32_lt (a32 e f) (a32 (n32 e) g)
  have h3 := x32_lt (x32 (rotr a 2) (rotr a 13)) (rotr a 22)
  have h4 := x32_lt (x32 (a32 a b) (a32 a c)) (a32 b c)
  unfold step stepX stepY
  simp only
  rw [← hS, ← hC, ← hR, ← hM]
  rw [← hS] at h1; rw [← hC] at h2; rw [← hR] at h3; rw [← hM] at h4
  clear hS hC hR hM
  subst hX
  simp only [M] at *
  simp only [md]
  refine V8.mk.injEq .. |>.mpr ⟨by omega, rfl, rfl, rfl, by omega, rfl, rfl, rfl⟩
theorem spreadTo_stay (b : List Nat) (t i : Nat) (h : i < t) : ∀ k, (spreadTo b (t + k)).getD i default = (spreadTo b t).getD i default
  | 0 => rfl
  | k + 1 => by
    rw [← spreadTo_stay b t i h k, ← Nat.add_assoc]
    rw [spreadTo, List.getD_eq_getElem?_getD, List.getD_eq_getElem?_getD, List.getElem?_set_ne (by omega)]
theorem consts_lt (i : Nat) : consts.getD i default < M := by
  rcases Nat.lt_or_ge i 64 with h | h
  · have : ∀ i, i < 64 → consts.getD i default < M := by decide
    exact this i h
  · rw [List.getD_eq_getElem?_getD, List.getElem?_eq_none (by rw [consts_len]; exact h)]; decide
theorem lenB {N i : Nat} (hN : N < 18446744073709551616) (hi : i < 8) : ((N * 256 ^ i) % 18446744073709551616 / 72057594037927936) % 256 = (N % 18446744073709551616 / 2 ^ (8 * (7 - i))) % 256 := by
  have h : i = 0 ∨ i = 1 ∨ i = 2 ∨ i = 3 ∨ i = 4 ∨ i = 5 ∨ i = 6 ∨ i = 7 := by omega
  rcases h with rfl | rfl | rfl | rfl | rfl | rfl | rfl | rfl
  all_goals simp only [Nat.reducePow, Nat.reduceMul, Nat.reduceSub]
  all_goals omega
end Go.Aw.Sha
