/- SHA-256, the program's: what is padded. -/
import Derived.Test.YthhlcdacmlnjdaaGreatSh4
namespace Go.Proofs.YthhlcdacmlnjdaaGreat.Sh
open Go Go.RowKit Go.Aw Go.Aw.Sha
set_option linter.unusedVariables false
set_option linter.unusedSimpArgs false
set_option maxRecDepth 8000

abbrev br (n : Nat) : List PVal := [PVal.k .u8 (n : Int)]
theorem padded_c (ls : List (List Nat × Bool)) (ex : Bool) (h : (ls.flatMap (·.1)).length ≤ 500000000 ∧ ls.length ≤ 1000000000) :
    PCall Tryz.prog 88 [pieces ls ex] (bytesN (pad (ls.flatMap (·.1))) false) := by
  refine pcall_of Tryz.func88 rfl (fun w0 F S0 M0 => ?_)
  obtain ⟨hf, hl⟩ := h
  have hf' : (ls.flatMap (·.1)).length ≤ 1000000000 := by omega
  repeat' (first
      | refine rnAW ?_
      | refine rnS ?_
      | refine rnG ?_
      | refine rnU ?_
      | ((fail_if_success (refine rnKn ?_)); refine rnP ?_ ?_ <;> (intro hq; try (have hq' := hq; simp only [hqs] at hq')))
      | refine rkAW ?_
      | refine rkS ?_
      | refine rkF ?_
      | refine rkU ?_
      | ((fail_if_success (refine rkKn ?_)); refine rkP ?_ ?_ <;> (intro hq; try (have hq' := hq; simp only [hqs] at hq')))
      | refine stp ?_
      | refine ifT ?_
      | refine ifF ?_
      | (refine ifQ ?_ ?_ <;> (try (intro hn)))
      | (refine ifB ?_ ?_ <;> (intro hq; try (have hq' := hq; simp only [hqs] at hq'))))
  generalize hL : (ls.flatMap (·.1)) = L at hf hf' ⊢
  refine aws_loopS (3 :: [3, 15, 16, 17, 18, 19, 20, 21]) [7] (fun (x : Nat × List Nat) => [(3, .o (.osl 7 (0 + (ls.length + 1) + x.1) 1 0 x.2.length))]) (fun x => [(7, (0 + (ls.length + 1) + x.1 + 1, some (.buf 5 1 (x.2.map br))))])
    (fun x => x.1 ≤ zeros L.length ∧ x.2 = L ++ [128] ++ List.replicate x.1 0) (fun x => zeros L.length - x.1) (0, L ++ [128]) ⟨Nat.zero_le _, by simp⟩ (by exact knA) (by exact knA) ?_
  rintro ⟨j, bs⟩ β γ ⟨hj, hb⟩
  simp only at hj hb
  have hz : zeros L.length ≤ 63 := by unfold zeros; omega
  have hbl : bs.length = L.length + 1 + j := by rw [hb]; simp; omega
  have hzj : ((bs.length : Int) % 64 = 56 ∧ j = zeros L.length) ∨ (¬ (bs.length : Int) % 64 = 56 ∧ j < zeros L.length) := by
    rw [hbl]; unfold zeros at hj ⊢; omega
  dsimp only
  repeat' (first
      | refine rnA ?_
      | refine rnS ?_
      | refine rnG ?_
      | refine rnU ?_
      | ((fail_if_success (refine rnKn ?_)); refine rnP ?_ ?_ <;> (intro hq; try (have hq' := hq; simp only [hqs] at hq')))
      | refine rkA ?_
      | refine rkS ?_
      | refine rkF ?_
      | refine rkU ?_
      | ((fail_if_success (refine rkKn ?_)); refine rkP ?_ ?_ <;> (intro hq; try (have hq' := hq; simp only [hqs] at hq')))
      | refine stp ?_
      | refine aws_draws [] mixed (by kernel_rfl) ?_
      | refine ifT ?_
      | refine ifF ?_
      | (refine ifQ ?_ ?_ <;> (try (intro hn)))
      | (refine ifB ?_ ?_ <;> (intro hq; try (have hq' := hq; simp only [hqs] at hq'))))
  · apply ex2 (j + 1)
    apply Exists.intro
    refine ⟨?_, ⟨?_, ?_⟩, .refl, ?_⟩
    rotate_left 3
    (focus exact frA)
    · dsimp only; omega
    · dsimp only; omega
    · dsimp only
      rw [hb, List.replicate_succ']; simp
  · have hjz : j = zeros L.length := by omega
    refine aws_loopS (3 :: [3, 5, 22, 23, 24, 25, 26, 27, 28, 29, 30, 31, 32, 33]) [7] (fun (x : Nat × Int × List Nat) => [(5, .p (.i x.2.1)), (3, .o (.osl 7 (0 + (ls.length + 1) + j + x.1) 1 0 x.2.2.length))]) (fun x => [(7, (0 + (ls.length + 1) + j + x.1 + 1, some (.buf 5 1 (x.2.2.map br))))])
      (fun x => x.1 ≤ 8 ∧ x.2.1 = 7 - (x.1 : Int) ∧ x.2.2 = bs ++ (lenBytes L.length).take x.1) (fun x => 8 - x.1) (0, 7, bs) ⟨Nat.zero_le _, rfl, by simp⟩ (by exact knA) (by exact knA) ?_
    rintro ⟨k, t, cs⟩ β' γ' ⟨hk, ht, hc⟩
    simp only at hk ht hc
    have hll : (lenBytes L.length).length = 8 := by simp [lenBytes]
    have hcl : cs.length = bs.length + k := by rw [hc, List.length_append, List.length_take, hll]; omega
    dsimp only
    repeat' (first
        | refine rnAW ?_
        | refine rnS ?_
        | refine rnG ?_
        | refine rnU ?_
        | ((fail_if_success (refine rnKn ?_)); refine rnP ?_ ?_ <;> (intro hq; try (have hq' := hq; simp only [hqs] at hq')))
        | refine rkAW ?_
        | refine rkS ?_
        | refine rkF ?_
        | refine rkU ?_
        | ((fail_if_success (refine rkKn ?_)); refine rkP ?_ ?_ <;> (intro hq; try (have hq' := hq; simp only [hqs] at hq')))
        | refine stp ?_
        | refine ifT ?_
        | refine ifF ?_
        | (refine ifQ ?_ ?_ <;> (try (intro hn)))
        | (refine ifB ?_ ?_ <;> (intro hq; try (have hq' := hq; simp only [hqs] at hq'))))
    · apply ex3 (k + 1) (t - 1)
      apply Exists.intro
      refine ⟨?_, ⟨?_, ?_, ?_⟩, .refl, ?_⟩
      rotate_left 4
      (focus exact frA)
      · dsimp only; omega
      · dsimp only; omega
      · dsimp only; omega
      · have e : (8 * t).toNat = 8 * (7 - k) := by omega
        have em : L.length % md .u64 = L.length := Nat.mod_eq_of_lt (by show L.length < 18446744073709551616; omega)
        dsimp only
        rw [hc, e, em, List.append_assoc, List.take_succ_eq_append_getElem (by rw [hll]; omega)]
        simp only [lenBytes, List.getElem_map, List.getElem_range]
        rfl
    · have hk8 : k = 8 := by omega
      refine rt1 rfl rfl (.one (finC_map rfl rfl rfl rfl)) (rs ?_)
      rw [hc, hb, hjz, hk8, List.take_of_length_le (by rw [hll]; omega)]
      rfl
instance {ls : List (List Nat × Bool)} {ex : Bool} : PC Tryz.prog 88 [pieces ls ex] ((ls.flatMap (·.1)).length ≤ 500000000 ∧ ls.length ≤ 1000000000) (bytesN (pad (ls.flatMap (·.1))) false) := ⟨padded_c ls ex⟩
end Go.Proofs.YthhlcdacmlnjdaaGreat.Sh
