/- SHA-256, the reference: turning words; constants -/
import Derived.Test.YthhlcdacmlnjdaaGreatSh2
import Derived.Test.YthhlcdacmlnjdaaGreatRsM
import Derived.Test.YthhlcdacmlnjdaaGreatKf
namespace Go.Proofs.YthhlcdacmlnjdaaGreat.Sh
open Go Go.RowKit Go.Aw Go.Aw.Sha
set_option linter.unusedVariables false
set_option linter.unusedSimpArgs false
set_option maxRecDepth 8000
set_option maxHeartbeats 4000000

/-- a word's cell -/
abbrev uc (n : Nat) : AC := .p (.k .u64 (n : Int))
abbrev u8c (v : V8) : List AC := [uc v.a, uc v.b, uc v.c, uc v.d, uc v.e, uc v.f, uc v.g, uc v.h]
theorem rturn_c (x k : Nat) (h : x < M ∧ 1 ≤ k ∧ k ≤ 32) : PCall Tryz.prog 72 [.p (.k .u64 (x : Int)), .p (.k .u64 (k : Int))] (.p (.k .u64 ((rotr x k : Nat) : Int))) := by
  refine pcall_of Tryz.func72 rfl (fun w0 F S0 M0 => ?_)
  obtain ⟨hx, hk⟩ := h
  have hm : (32 + (md .u64 - k % md .u64)) % md .u64 = 32 - k := by
    have : k % md .u64 = k := u64_ok (by omega)
    rw [this]; show (32 + (18446744073709551616 - k)) % 18446744073709551616 = 32 - k; omega
  repeat' (first
      | refine rnAW ?_
      | refine rnS ?_
      | refine rnG ?_
      | refine rnU ?_
      | ((fail_if_success (refine rnKn ?_)); refine rnP ?_ ?_ <;> (intro hq; try (have hq' := hq; simp only [hqs] at hq')))
      | refine rkAW ?_
      | refine rkS ?_
      | refine rkF ?_
      | refine rkU ?_
      | ((fail_if_success (refine rkKn ?_)); refine rkP ?_ ?_ <;> (intro hq; try (have hq' := hq; simp only [hqs] at hq')))
      | refine stp ?_
      | refine ifT ?_
      | refine ifF ?_
      | (refine ifQ ?_ ?_ <;> (try (intro hn)))
      | (refine ifB ?_ ?_ <;> (intro hq; try (have hq' := hq; simp only [hqs] at hq'))))
  refine rt1 rfl rfl finS_p (ri ?_)
  rw [Int.toNat_natCast, hm, Int.toNat_natCast]
  exact congrArg Nat.cast (turn_eq hx hk).symm
instance {x : Nat} {n : Int} : PC Tryz.prog 72 [.p (.k .u64 (x : Int)), .p (.k .u64 n)] (x < M ∧ 1 ≤ n ∧ n ≤ 32) (.p (.k .u64 ((rotr x n.toNat : Nat) : Int))) := ⟨fun h => by
  have := rturn_c x n.toNat ⟨h.1, by omega, by omega⟩
  rwa [show ((n.toNat : Nat) : Int) = n by omega] at this⟩
theorem rconsts_c : PCall Tryz.prog 70 [] (.a (consts.map uc)) := by
  refine pcall_of Tryz.func70 rfl (fun w0 F S0 M0 => ?_)
  repeat' (first
      | refine rnAW ?_
      | refine rnS ?_
      | refine rnG ?_
      | refine rnU ?_
      | ((fail_if_success (refine rnKn ?_)); refine rnP ?_ ?_ <;> (intro hq; try (have hq' := hq; simp only [hqs] at hq')))
      | refine rkAW ?_
      | refine rkS ?_
      | refine rkF ?_
      | refine rkU ?_
      | ((fail_if_success (refine rkKn ?_)); refine rkP ?_ ?_ <;> (intro hq; try (have hq' := hq; simp only [hqs] at hq')))
      | refine stp ?_
      | refine ifT ?_
      | refine ifF ?_
      | (refine ifQ ?_ ?_ <;> (try (intro hn)))
      | (refine ifB ?_ ?_ <;> (intro hq; try (have hq' := hq; simp only [hqs] at hq'))))
  all_goals exact rc1 rfl rfl rfl rfl rfl rfl finL_p rfl
instance : PC Tryz.prog 70 [] True (.a (consts.map uc)) := ⟨fun _ => rconsts_c⟩
end Go.Proofs.YthhlcdacmlnjdaaGreat.Sh
