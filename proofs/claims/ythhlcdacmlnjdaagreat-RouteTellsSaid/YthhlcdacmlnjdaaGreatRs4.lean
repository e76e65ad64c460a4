/- SHA-256, the reference: what stands behind a text -/
import Derived.Test.YthhlcdacmlnjdaaGreatRs1
import Derived.Test.YthhlcdacmlnjdaaGreatSh5
namespace Go.Proofs.YthhlcdacmlnjdaaGreat.Sh
open Go Go.RowKit Go.Aw Go.Aw.Sha
set_option linter.unusedVariables false
set_option linter.unusedSimpArgs false
set_option maxRecDepth 8000
set_option maxHeartbeats 4000000

theorem rpad_c (b : List Nat) (ex : Bool) (h : b.length ≤ 500000000) : PCall Tryz.prog 60 [bytesN b ex] (bytesN (pad b) false) := by
  refine pcall_of Tryz.func60 rfl (fun w0 F S0 M0 => ?_)
  refine aws_seq (aws_region ?_)
  refine rnB (rn_nil ?_)
  refine aws_seq (aws_region ?_)
  refine rn_any (gd_n rfl rfl) rfl (lop_bz rfl inferInstance inferInstance inferInstance rfl rfl rfl) ?_
  repeat' (first
      | refine rnB ?_
      | refine rnSB ?_
      | refine rnG ?_
      | refine rnU ?_
      | ((fail_if_success (refine rnKn ?_)); refine rnP ?_ ?_ <;> (intro hq; try (have hq' := hq; simp only [hqs] at hq')))
      | refine rkB ?_
      | refine rkSB ?_
      | refine rkF ?_
      | refine rkU ?_
      | ((fail_if_success (refine rkKn ?_)); refine rkP ?_ ?_ <;> (intro hq; try (have hq' := hq; simp only [hqs] at hq')))
      | refine stp ?_
      | refine ifT ?_
      | refine ifF ?_
      | (refine ifQ ?_ ?_ <;> (try (intro hn)))
      | (refine ifB ?_ ?_ <;> (intro hq; try (have hq' := hq; simp only [hqs] at hq'))))
  refine aws_loopS (3 :: [3, 11, 12, 13, 14, 15, 16, 17]) [6] (fun (x : Nat × Nat × List Nat) => [(3, .o (.osl 6 x.2.1 1 0 x.2.2.length))]) (fun x => [(6, (x.2.1 + 1, some (.buf 5 1 (x.2.2.map br))))])
    (fun x => x.1 ≤ zeros b.length ∧ x.2.2 = b ++ [128] ++ List.replicate x.1 0) (fun x => zeros b.length - x.1) (0, 2, b ++ [128]) ⟨Nat.zero_le _, by simp⟩ (by exact knA) (by exact knA) ?_
  rintro ⟨j, g, bs⟩ β γ ⟨hj, hb⟩
  simp only at hj hb
  have hz : zeros b.length ≤ 63 := by unfold zeros; omega
  have hbl : bs.length = b.length + 1 + j := by rw [hb]; simp; omega
  dsimp only
  by_cases hjz : j < zeros b.length
  · have hd : decide ((bs.length : Int) % 64 ≠ 56) = true := decide_eq_true (by rw [hbl]; unfold zeros at hjz; omega)
    repeat' (first
        | refine rnB ?_
        | refine rnSB ?_
        | refine rnG ?_
        | refine rnU ?_
        | ((fail_if_success (refine rnKn ?_)); refine rnP ?_ ?_ <;> (intro hq; try (have hq' := hq; simp only [hqs] at hq')))
        | refine rkB ?_
        | refine rkSB ?_
        | refine rkF ?_
        | refine rkU ?_
        | ((fail_if_success (refine rkKn ?_)); refine rkP ?_ ?_ <;> (intro hq; try (have hq' := hq; simp only [hqs] at hq')))
        | refine stp ?_
        | refine ifT ?_
        | refine ifF ?_
        | (refine ifQ ?_ ?_ <;> (try (intro hn)))
        | (refine ifB ?_ ?_ <;> (intro hq; try (have hq' := hq; simp only [hqs] at hq'))))
    apply ex3 (j + 1) (g + 1)
    apply Exists.intro
    refine ⟨?_, ⟨?_, ?_⟩, .refl, ?_⟩
    rotate_left 3
    (focus exact frA)
    · dsimp only; omega
    · dsimp only; omega
    · dsimp only
      rw [hb, List.replicate_succ']; simp
  · have hjz' : j = zeros b.length := by omega
    have hd : decide ((bs.length : Int) % 64 ≠ 56) = false := decide_eq_false (by rw [hbl, hjz']; unfold zeros; omega)
    repeat' (first
        | refine rnBW ?_
        | refine rnSB ?_
        | refine rnG ?_
        | refine rnU ?_
        | ((fail_if_success (refine rnKn ?_)); refine rnP ?_ ?_ <;> (intro hq; try (have hq' := hq; simp only [hqs] at hq')))
        | refine rkBW ?_
        | refine rkSB ?_
        | refine rkF ?_
        | refine rkU ?_
        | ((fail_if_success (refine rkKn ?_)); refine rkP ?_ ?_ <;> (intro hq; try (have hq' := hq; simp only [hqs] at hq')))
        | refine stp ?_
        | refine ifT ?_
        | refine ifF ?_
        | (refine ifQ ?_ ?_ <;> (try (intro hn)))
        | (refine ifB ?_ ?_ <;> (intro hq; try (have hq' := hq; simp only [hqs] at hq'))))
    refine aws_loopS (3 :: 4 :: [3, 4, 5, 22, 23, 24, 25, 26, 27, 28, 29, 30, 31, 32, 33]) [6] (fun (x : Nat × Nat × Nat × List Nat) => [(5, .p (.i x.1)), (4, .p (.k .u64 (x.2.2.1 : Int))), (3, .o (.osl 6 x.2.1 1 0 x.2.2.2.length))]) (fun x => [(6, (x.2.1 + 1, some (.buf 5 1 (x.2.2.2.map br))))])
      (fun x => x.1 ≤ 8 ∧ x.2.2.1 = (b.length * 8 * 256 ^ x.1) % md .u64 ∧ x.2.2.2 = bs ++ (lenBytes b.length).take x.1) (fun x => 8 - x.1) (0, g, (8 * (b.length % md .u64)) % md .u64, bs) ⟨Nat.zero_le _, by
        dsimp only; rw [u64_ok (show b.length < 18446744073709551616 by omega), Nat.pow_zero, Nat.mul_one, Nat.mul_comm], by simp⟩ (by exact knA) (by exact knA) ?_
    rintro ⟨i, g', N, cs⟩ β' γ' ⟨hi, hN, hc⟩
    simp only at hi hN hc
    have hll : (lenBytes b.length).length = 8 := by simp [lenBytes]
    have hcl : cs.length = bs.length + i := by rw [hc, List.length_append, List.length_take, hll]; omega
    dsimp only
    by_cases hi8 : i < 8
    · have hdi : decide ((i : Int) < 8) = true := decide_eq_true (by omega)
      repeat' (first
          | refine rnBW ?_
          | refine rnSB ?_
          | refine rnG ?_
          | refine rnU ?_
          | ((fail_if_success (refine rnKn ?_)); refine rnP ?_ ?_ <;> (intro hq; try (have hq' := hq; simp only [hqs] at hq')))
          | refine rkBW ?_
          | refine rkSB ?_
          | refine rkF ?_
          | refine rkU ?_
          | ((fail_if_success (refine rkKn ?_)); refine rkP ?_ ?_ <;> (intro hq; try (have hq' := hq; simp only [hqs] at hq')))
          | refine stp ?_
          | refine ifT ?_
          | refine ifF ?_
          | (refine ifQ ?_ ?_ <;> (try (intro hn)))
          | (refine ifB ?_ ?_ <;> (intro hq; try (have hq' := hq; simp only [hqs] at hq'))))
      refine ⟨(i + 1, g' + 1, (N * 256) % md .u64, cs ++ [N / 72057594037927936 % md .u64 % md .u8]), _, by dsimp only; omega, ⟨by dsimp only; omega, ?_, ?_⟩, .refl, by exact frA⟩
      · dsimp only
        rw [hN, Nat.pow_succ, ← Nat.mul_assoc, Nat.mod_mul_mod]
      · dsimp only
        have h56 : N / 72057594037927936 < 18446744073709551616 := Nat.lt_of_le_of_lt (Nat.div_le_self _ _) (by rw [hN]; exact Nat.mod_lt _ (by decide))
        have e : N / 72057594037927936 % md .u64 % md .u8 = (lenBytes b.length)[i]'(by rw [hll]; exact hi8) := by
          rw [u64_ok h56, hN]
          simp only [lenBytes, List.getElem_map, List.getElem_range]
          exact lenB (by omega) hi8
        rw [e, hc, List.append_assoc, List.take_succ_eq_append_getElem (by rw [hll]; omega)]
    · have hdi : decide ((i : Int) < 8) = false := decide_eq_false (by omega)
      repeat' (first
          | refine rnBW ?_
          | refine rnSB ?_
          | refine rnG ?_
          | refine rnU ?_
          | ((fail_if_success (refine rnKn ?_)); refine rnP ?_ ?_ <;> (intro hq; try (have hq' := hq; simp only [hqs] at hq')))
          | refine rkBW ?_
          | refine rkSB ?_
          | refine rkF ?_
          | refine rkU ?_
          | ((fail_if_success (refine rkKn ?_)); refine rkP ?_ ?_ <;> (intro hq; try (have hq' := hq; simp only [hqs] at hq')))
          | refine stp ?_
          | refine ifT ?_
          | refine ifF ?_
          | (refine ifQ ?_ ?_ <;> (try (intro hn)))
          | (refine ifB ?_ ?_ <;> (intro hq; try (have hq' := hq; simp only [hqs] at hq'))))
      refine rt1 rfl rfl (.one (finC_map rfl rfl rfl rfl)) (rs ?_)
      rw [hc, hb, hjz', show i = 8 by omega, List.take_of_length_le (by rw [hll]; omega)]
      rfl
instance {b : List Nat} {ex : Bool} : PC Tryz.prog 60 [bytesN b ex] (b.length ≤ 500000000) (bytesN (pad b) false) := ⟨rpad_c b ex⟩
end Go.Proofs.YthhlcdacmlnjdaaGreat.Sh
