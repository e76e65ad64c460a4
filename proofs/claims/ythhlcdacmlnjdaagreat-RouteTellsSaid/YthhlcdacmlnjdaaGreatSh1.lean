/- SHA-256, the program's: turning words, the constants. -/
import Derived.Test.YthhlcdacmlnjdaaGreatKe
import Derived.Test.YthhlcdacmlnjdaaGreatShM
import Derived.Test.YthhlcdacmlnjdaaGreatTy
namespace Go.Proofs.YthhlcdacmlnjdaaGreat.Sh
open Go Go.RowKit Go.Aw Go.Aw.Sha
set_option linter.unusedVariables false
set_option linter.unusedSimpArgs false
set_option maxRecDepth 4000

theorem and31 (z : Int) : 0 ≤ bits .and .u64 z 31 ∧ bits .and .u64 z 31 ≤ 31 := by
  have e : bits .and .u64 z 31 = (((BitVec.ofInt 64 z).toNat &&& 31 : Nat) : Int) := by
    have h1 : (BitVec.ofInt 64 z &&& BitVec.ofInt 64 31).toNat = (BitVec.ofInt 64 z).toNat &&& 31 := by simp [BitVec.toNat_and]
    have h2 : ((BitVec.ofInt 64 z).toNat &&& 31) ≤ 31 := Nat.and_le_right
    show IntKind.u64.wrap ((BitVec.ofInt 64 z &&& BitVec.ofInt 64 31).toNat : Int) = _
    rw [h1, wrap_md rfl, Nat.mod_eq_of_lt]
    exact Nat.lt_of_le_of_lt h2 (by decide)
  have h2 : ((BitVec.ofInt 64 z).toNat &&& 31) ≤ 31 := Nat.and_le_right
  omega
theorem rotl_c (x : Nat) (k : Int) : PCall Tryz.prog 127 [.p (.k .u32 (x : Int)), .p (.i k)] (.p (.k .u32 ((o32 ((x * 2 ^ (bits .and .u64 (IntKind.u64.wrap k) 31).toNat) % M) (x / 2 ^ ((32 : Int) - bits .and .u64 (IntKind.u64.wrap k) 31).toNat) : Nat) : Int))) := by
  refine pcall_of Tryz.func127 rfl (fun w0 F S0 M0 => ?_)
  have h31 := and31 (IntKind.u64.wrap k)
  repeat' (first
      | refine rnAW ?_
      | refine rnS ?_
      | refine rnG ?_
      | refine rnU ?_
      | ((fail_if_success (refine rnKn ?_)); refine rnP ?_ ?_ <;> (intro hq; try (have hq' := hq; simp only [hqs] at hq')))
      | refine rkAW ?_
      | refine rkS ?_
      | refine rkF ?_
      | refine rkU ?_
      | ((fail_if_success (refine rkKn ?_)); refine rkP ?_ ?_ <;> (intro hq; try (have hq' := hq; simp only [hqs] at hq')))
      | refine stp ?_
      | refine ifT ?_
      | refine ifF ?_
      | (refine ifQ ?_ ?_ <;> (try (intro hn)))
      | (refine ifB ?_ ?_ <;> (intro hq; try (have hq' := hq; simp only [hqs] at hq'))))
  all_goals exact rt1 rfl rfl finS_p rfl
instance {x : Nat} {k : Int} : PC Tryz.prog 127 [.p (.k .u32 (x : Int)), .p (.i k)] True (.p (.k .u32 ((o32 ((x * 2 ^ (bits .and .u64 (IntKind.u64.wrap k) 31).toNat) % M) (x / 2 ^ ((32 : Int) - bits .and .u64 (IntKind.u64.wrap k) 31).toNat) : Nat) : Int))) := ⟨fun _ => rotl_c x k⟩

theorem turn_of : ∀ n : Nat, n < 32 → 1 ≤ n → bits .and .u64 (IntKind.u64.wrap (IntKind.i64.wrap (0 - (n : Int)))) 31 = 32 - (n : Int) := by decide
theorem o32_rot {x n : Nat} (hx : x < M) : o32 ((x * 2 ^ (32 - n)) % M) (x / 2 ^ n) = rotr x n := by
  unfold o32 rotr
  rw [Nat.mod_mod, Nat.mod_eq_of_lt (a := x / 2 ^ n) (Nat.lt_of_le_of_lt (Nat.div_le_self _ _) hx), Nat.or_comm]
theorem right_c (x n : Nat) (h : x < M ∧ 1 ≤ n ∧ n ≤ 31) : PCall Tryz.prog 113 [.p (.k .u32 (x : Int)), .p (.i (n : Int))] (.p (.k .u32 ((rotr x n : Nat) : Int))) := by
  refine pcall_of Tryz.func113 rfl (fun w0 F S0 M0 => ?_)
  repeat' (first
      | refine rnAW ?_
      | refine rnS ?_
      | refine rnG ?_
      | refine rnU ?_
      | ((fail_if_success (refine rnKn ?_)); refine rnP ?_ ?_ <;> (intro hq; try (have hq' := hq; simp only [hqs] at hq')))
      | refine rkAW ?_
      | refine rkS ?_
      | refine rkF ?_
      | refine rkU ?_
      | ((fail_if_success (refine rkKn ?_)); refine rkP ?_ ?_ <;> (intro hq; try (have hq' := hq; simp only [hqs] at hq')))
      | refine stp ?_
      | refine ifT ?_
      | refine ifF ?_
      | (refine ifQ ?_ ?_ <;> (try (intro hn)))
      | (refine ifB ?_ ?_ <;> (intro hq; try (have hq' := hq; simp only [hqs] at hq'))))
  refine rt1 rfl rfl finS_p (ri ?_)
  have e := turn_of n (by omega) h.2.1
  have e1 : (bits .and .u64 (IntKind.u64.wrap (IntKind.i64.wrap (0 - (n : Int)))) 31).toNat = 32 - n := by rw [e]; omega
  have e2 : ((32 : Int) - bits .and .u64 (IntKind.u64.wrap (IntKind.i64.wrap (0 - (n : Int)))) 31).toNat = n := by rw [e]; omega
  rw [e1, e2, o32_rot h.1]
instance {x : Nat} {k : Int} : PC Tryz.prog 113 [.p (.k .u32 (x : Int)), .p (.i k)] (x < M ∧ 1 ≤ k ∧ k ≤ 31) (.p (.k .u32 ((rotr x k.toNat : Nat) : Int))) := ⟨fun h => by
  have := right_c x k.toNat ⟨h.1, by omega, by omega⟩
  rwa [show ((k.toNat : Nat) : Int) = k by omega] at this⟩
/-- a word's cell -/
abbrev wc (n : Nat) : AC := .p (.k .u32 (n : Int))
abbrev v8 (v : V8) : List AC := [wc v.a, wc v.b, wc v.c, wc v.d, wc v.e, wc v.f, wc v.g, wc v.h]
theorem first_c : PCall Tryz.prog 86 [] (.a (v8 firstV)) := by
  refine pcall_of Tryz.func86 rfl (fun w0 F S0 M0 => ?_)
  repeat' (first
      | refine rnAW ?_
      | refine rnS ?_
      | refine rnG ?_
      | refine rnU ?_
      | ((fail_if_success (refine rnKn ?_)); refine rnP ?_ ?_ <;> (intro hq; try (have hq' := hq; simp only [hqs] at hq')))
      | refine rkAW ?_
      | refine rkS ?_
      | refine rkF ?_
      | refine rkU ?_
      | ((fail_if_success (refine rkKn ?_)); refine rkP ?_ ?_ <;> (intro hq; try (have hq' := hq; simp only [hqs] at hq')))
      | refine stp ?_
      | refine ifT ?_
      | refine ifF ?_
      | (refine ifQ ?_ ?_ <;> (try (intro hn)))
      | (refine ifB ?_ ?_ <;> (intro hq; try (have hq' := hq; simp only [hqs] at hq'))))
  all_goals exact rc1 rfl rfl rfl rfl rfl rfl finL_p rfl
instance : PC Tryz.prog 86 [] True (.a (v8 firstV)) := ⟨fun _ => first_c⟩
theorem consts_c : PCall Tryz.prog 111 [] (.a (consts.map wc)) := by
  refine pcall_of Tryz.func111 rfl (fun w0 F S0 M0 => ?_)
  repeat' (first
      | refine rnAW ?_
      | refine rnS ?_
      | refine rnG ?_
      | refine rnU ?_
      | ((fail_if_success (refine rnKn ?_)); refine rnP ?_ ?_ <;> (intro hq; try (have hq' := hq; simp only [hqs] at hq')))
      | refine rkAW ?_
      | refine rkS ?_
      | refine rkF ?_
      | refine rkU ?_
      | ((fail_if_success (refine rkKn ?_)); refine rkP ?_ ?_ <;> (intro hq; try (have hq' := hq; simp only [hqs] at hq')))
      | refine stp ?_
      | refine ifT ?_
      | refine ifF ?_
      | (refine ifQ ?_ ?_ <;> (try (intro hn)))
      | (refine ifB ?_ ?_ <;> (intro hq; try (have hq' := hq; simp only [hqs] at hq'))))
  all_goals exact rc1 rfl rfl rfl rfl rfl rfl finL_p rfl
instance : PC Tryz.prog 111 [] True (.a (consts.map wc)) := ⟨fun _ => consts_c⟩
end Go.Proofs.YthhlcdacmlnjdaaGreat.Sh
