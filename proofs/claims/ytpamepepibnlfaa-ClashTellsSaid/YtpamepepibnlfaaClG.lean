/- clashes, the laws: texts -/
import Derived.Test.YtpamepepibnlfaaClC
namespace Go.Proofs.Ytpamepepibnlfaa.Cl
open Go Go.RowKit Go.Aw Go.Aw.Sha Go.Aw.Tree Go.Aw.Clash Go.Proofs.Ytpamepepibnlfaa.Sh Go.Proofs.Ytpamepepibnlfaa.Tr
set_option linter.unusedVariables false
set_option linter.unusedSimpArgs false
set_option maxRecDepth 8000
attribute [local irreducible] sum
set_option maxHeartbeats 4000000
def greatF (ls : List (List Nat)) : Bool := ls.any fun b => decide (300 < b.length)
theorem great_c (ls : List (List Nat)) (h : ls.length = 16) : PCall Try.prog 14 [txs ls] (.p (.b (greatF ls))) := by
  refine pcall_of Try.func14 rfl (fun w0 F S0 M0 => ?_)
  repeat' (first
      | refine rnB ?_
      | refine rnSB ?_
      | refine rnG ?_
      | refine rnU ?_
      | ((fail_if_success (refine rnKn ?_)); refine rnP ?_ ?_ <;> (intro hq; try (have hq' := hq; simp only [hqs] at hq')))
      | refine rkB ?_
      | refine rkSB ?_
      | refine rkF ?_
      | refine rkU ?_
      | ((fail_if_success (refine rkKn ?_)); refine rkP ?_ ?_ <;> (intro hq; try (have hq' := hq; simp only [hqs] at hq')))
      | refine stp ?_
      | refine ifT ?_
      | refine ifF ?_
      | (refine ifQ ?_ ?_ <;> (try (intro hn)))
      | (refine ifB ?_ ?_ <;> (intro hq; try (have hq' := hq; simp only [hqs] at hq'))))
  refine aws_loopS [2, 3, 4, 5, 6, 7, 8, 9, 10, 11, 12] [] (fun (i : Nat) => [(3, .p (.i i))]) (fun _ => []) (fun i => i ≤ 16 ∧ ∀ b ∈ ls.take i, b.length ≤ 300) (fun i => 16 - i) 0 ⟨Nat.zero_le _, by simp⟩ (by exact knA) (by exact knA) ?_
  rintro i β γ ⟨hi, hpre⟩
  by_cases hi16 : i < 16
  · have hd : decide ((i : Int) < 16) = true := decide_eq_true (by omega)
    have hmem : ls.getD (i : Int).toNat default ∈ ls := by
      rw [Int.toNat_natCast, List.getD_eq_getElem?_getD, List.getElem?_eq_getElem (by omega)]; exact List.getElem_mem _
    repeat' (first
        | refine rnB ?_
        | refine rnSB ?_
        | refine rnG ?_
        | refine rnU ?_
        | ((fail_if_success (refine rnKn ?_)); refine rnP ?_ ?_ <;> (intro hq; try (have hq' := hq; simp only [hqs] at hq')))
        | refine rkB ?_
        | refine rkSB ?_
        | refine rkF ?_
        | refine rkU ?_
        | ((fail_if_success (refine rkKn ?_)); refine rkP ?_ ?_ <;> (intro hq; try (have hq' := hq; simp only [hqs] at hq')))
        | refine stp ?_
        | refine ifT ?_
        | refine ifF ?_
        | (refine ifQ ?_ ?_ <;> (try (intro hn)))
        | (refine ifB ?_ ?_ <;> (intro hq; try (have hq' := hq; simp only [hqs] at hq'))))
    · refine rt1 rfl rfl finS_p (rb ?_)
      exact List.any_eq_true.2 ⟨_, hmem, decide_eq_true (by omega)⟩
    · refine ⟨i + 1, _, by omega, ⟨by omega, fun b hb => ?_⟩, .refl, by exact frA⟩
      rw [take_snocD (by omega)] at hb
      rcases List.mem_append.1 hb with hb | hb
      · exact hpre b hb
      · simp only [List.mem_singleton] at hb
        rw [Int.toNat_natCast] at hq'
        subst hb; omega
  · have hd : decide ((i : Int) < 16) = false := decide_eq_false (by omega)
    repeat' (first
        | refine rnB ?_
        | refine rnSB ?_
        | refine rnG ?_
        | refine rnU ?_
        | ((fail_if_success (refine rnKn ?_)); refine rnP ?_ ?_ <;> (intro hq; try (have hq' := hq; simp only [hqs] at hq')))
        | refine rkB ?_
        | refine rkSB ?_
        | refine rkF ?_
        | refine rkU ?_
        | ((fail_if_success (refine rkKn ?_)); refine rkP ?_ ?_ <;> (intro hq; try (have hq' := hq; simp only [hqs] at hq')))
        | refine stp ?_
        | refine ifT ?_
        | refine ifF ?_
        | (refine ifQ ?_ ?_ <;> (try (intro hn)))
        | (refine ifB ?_ ?_ <;> (intro hq; try (have hq' := hq; simp only [hqs] at hq'))))
    refine rt1 rfl rfl finS_p (rb ?_)
    refine Bool.eq_false_iff.2 fun hc => ?_
    obtain ⟨b, hb, hlt⟩ := List.any_eq_true.1 hc
    have := hpre b (by rw [List.take_of_length_le (by omega)]; exact hb)
    have := of_decide_eq_true hlt
    omega
instance {ls : List (List Nat)} : PC Try.prog 14 [txs ls] (ls.length = 16) (.p (.b (greatF ls))) := ⟨great_c ls⟩
theorem greatF_few {ls : List (List Nat)} (h : ls.length = 16) (hg : greatF ls = false) : few ls := ⟨h, fun b hb => by
  rcases Nat.lt_or_ge 300 b.length with h1 | h1
  · have : greatF ls = true := List.any_eq_true.2 ⟨b, hb, decide_eq_true h1⟩
    rw [hg] at this; cases this
  · omega⟩

theorem texts_c (ls : List (List Nat)) (h : ls.length = 16) : PCall Try.prog 16 [txs ls] (strs ls) := by
  refine pcall_of Try.func16 rfl (fun w0 F S0 M0 => ?_)
  repeat' (first
      | refine rnB ?_
      | refine rnSB ?_
      | refine rnG ?_
      | refine rnU ?_
      | ((fail_if_success (refine rnKn ?_)); refine rnP ?_ ?_ <;> (intro hq; try (have hq' := hq; simp only [hqs] at hq')))
      | refine rkB ?_
      | refine rkSB ?_
      | refine rkF ?_
      | refine rkU ?_
      | ((fail_if_success (refine rkKn ?_)); refine rkP ?_ ?_ <;> (intro hq; try (have hq' := hq; simp only [hqs] at hq')))
      | refine stp ?_
      | refine ifT ?_
      | refine ifF ?_
      | (refine ifQ ?_ ?_ <;> (try (intro hn)))
      | (refine ifB ?_ ?_ <;> (intro hq; try (have hq' := hq; simp only [hqs] at hq'))))
  refine aws_loopS [4, 5, 6, 7, 8, 9, 10, 11, 12, 13, 14] [3] (fun (x : Nat × List (List Nat)) => [(4, .p (.i x.1))]) (fun x => [(3, (1, some (.box 26 (x.2.map fun b => .p (.v (.string (strOf b)))))))])
    (fun x => x.1 ≤ 16 ∧ x.2 = ls.take x.1 ++ List.replicate (16 - x.1) []) (fun x => 16 - x.1) (0, List.replicate 16 []) ⟨Nat.zero_le _, rfl⟩ (by exact knA) (by exact knA) ?_
  rintro ⟨i, ss⟩ β γ ⟨hi, hs⟩
  simp only at hi hs
  have hsl : ss.length = 16 := by rw [hs]; simp; omega
  dsimp only
  by_cases hi16 : i < 16
  · have hd : decide ((i : Int) < 16) = true := decide_eq_true (by omega)
    repeat' (first
        | refine rnB ?_
        | refine rnSB ?_
        | refine rnG ?_
        | refine rnU ?_
        | ((fail_if_success (refine rnKn ?_)); refine rnP ?_ ?_ <;> (intro hq; try (have hq' := hq; simp only [hqs] at hq')))
        | refine rkB ?_
        | refine rkSB ?_
        | refine rkF ?_
        | refine rkU ?_
        | ((fail_if_success (refine rkKn ?_)); refine rkP ?_ ?_ <;> (intro hq; try (have hq' := hq; simp only [hqs] at hq')))
        | refine stp ?_
        | refine ifT ?_
        | refine ifF ?_
        | (refine ifQ ?_ ?_ <;> (try (intro hn)))
        | (refine ifB ?_ ?_ <;> (intro hq; try (have hq' := hq; simp only [hqs] at hq'))))
    apply ex2 (i + 1)
    apply Exists.intro
    refine ⟨?_, ⟨?_, ?_⟩, .refl, ?_⟩
    rotate_left 3
    (focus exact frA)
    · dsimp only; omega
    · dsimp only; omega
    · dsimp only
      rw [hs, take_snocD (by omega), Int.toNat_natCast, List.set_append_right _ _ (by simp; omega)]
      have e : 16 - i = (16 - (i + 1)) + 1 := by omega
      rw [e, List.replicate_succ]
      simp
      rw [show i - min i ls.length = 0 by omega]; rfl
  · have hd : decide ((i : Int) < 16) = false := decide_eq_false (by omega)
    repeat' (first
        | refine rnB ?_
        | refine rnSB ?_
        | refine rnG ?_
        | refine rnU ?_
        | ((fail_if_success (refine rnKn ?_)); refine rnP ?_ ?_ <;> (intro hq; try (have hq' := hq; simp only [hqs] at hq')))
        | refine rkB ?_
        | refine rkSB ?_
        | refine rkF ?_
        | refine rkU ?_
        | ((fail_if_success (refine rkKn ?_)); refine rkP ?_ ?_ <;> (intro hq; try (have hq' := hq; simp only [hqs] at hq')))
        | refine stp ?_
        | refine ifT ?_
        | refine ifF ?_
        | (refine ifQ ?_ ?_ <;> (try (intro hn)))
        | (refine ifB ?_ ?_ <;> (intro hq; try (have hq' := hq; simp only [hqs] at hq'))))
    refine rc1 rfl rfl rfl rfl rfl (by simpa using hsl) finL_p ?_
    rw [hs, List.take_of_length_le (by omega), show 16 - i = 0 by omega, List.replicate_zero, List.append_nil]
instance {ls : List (List Nat)} : PC Try.prog 16 [txs ls] (ls.length = 16) (strs ls) := ⟨texts_c ls⟩
end Go.Proofs.Ytpamepepibnlfaa.Cl
