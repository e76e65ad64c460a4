/- clashes: Exact -/
import Derived.Test.YtpamepepibnlfaaClU
namespace Go.Proofs.Ytpamepepibnlfaa.Cl
open Go Go.RowKit Go.Aw Go.Aw.Sha Go.Aw.Tree Go.Aw.Clash Go.Proofs.Ytpamepepibnlfaa.Sh Go.Proofs.Ytpamepepibnlfaa.Tr
set_option linter.unusedVariables false
set_option linter.unusedSimpArgs false
set_option maxRecDepth 8000
attribute [local irreducible] sum
set_option maxHeartbeats 4000000
def okT (ls : List (List Nat)) : Prop := ∀ b ∈ ls, okB b
theorem okT_get {ls : List (List Nat)} (h : okT ls) (i : Nat) : okB (ls.getD i default) := by
  rw [List.getD_eq_getElem?_getD]
  cases hx : ls[i]? with
  | none => exact okB.nil
  | some x => exact h x (List.mem_of_getElem? hx)
/-- is each of the first n leaves in l just when its texts are unlike? -/
def exTo (ls ms : List (List Nat)) (l : List Int) (n : Nat) : Prop := ∀ i, i < n → decide ((i : Int) ∈ l) ≠ decide (ls.getD i default = ms.getD i default)
instance {ls ms : List (List Nat)} {l : List Int} {n : Nat} : Decidable (exTo ls ms l n) := by unfold exTo; infer_instance
theorem exTo_succ {ls ms : List (List Nat)} {l : List Int} {n : Nat} (h : exTo ls ms l n) (h1 : decide ((n : Int) ∈ l) ≠ decide (ls.getD n default = ms.getD n default)) : exTo ls ms l (n + 1) := fun i hi => by
  by_cases e : i = n
  · subst e; exact h1
  · exact h i (by omega)
theorem exact_w (ls ms : List (List Nat)) (h : few ls ∧ few ms ∧ okT ls ∧ okT ms) : PCall Try.prog 22 [txs ls, txs ms] (.p (.b (decide (exTo ls ms (leavesL (walkF (ofF ls) (ofF ms)).1) 16)))) := by
  refine pcall_of Try.func22 rfl (fun w0 F S0 M0 => ?_)
  obtain ⟨hl, hm, ol, om⟩ := h
  have hl16 := hl.1
  have hm16 := hm.1
  have hof := ofF_len ls
  have hog := ofF_len ms
  have hwl : (leavesL (walkF (ofF ls) (ofF ms)).1).length ≤ 1000 := by
    have h1 := leavesL_le (walkF (ofF ls) (ofF ms)).1
    have h2 := walkF_len (T := ofF ls) (U := ofF ms)
    omega
  repeat' (first
      | refine rnB ?_
      | refine rnSB ?_
      | refine rnG ?_
      | refine rnU ?_
      | ((fail_if_success (refine rnKn ?_)); refine rnP ?_ ?_ <;> (intro hq; try (have hq' := hq; simp only [hqs] at hq')))
      | refine rkB ?_
      | refine rkSB ?_
      | refine rkF ?_
      | refine rkU ?_
      | ((fail_if_success (refine rkKn ?_)); refine rkP ?_ ?_ <;> (intro hq; try (have hq' := hq; simp only [hqs] at hq')))
      | refine stp ?_
      | refine aws_draws [] mixed (by kernel_rfl) ?_
      | refine ifT ?_
      | refine ifF ?_
      | (refine ifQ ?_ ?_ <;> (try (intro hn)))
      | (refine ifB ?_ ?_ <;> (intro hq; try (have hq' := hq; simp only [hqs] at hq'))))
  refine aws_loopS [4, 7, 16, 17, 18, 19, 20, 21, 22, 23, 24, 25, 26, 27, 28, 29, 30] [] (fun (i : Nat) => [(16, .p (.i i))]) (fun _ => []) (fun i => i ≤ 16 ∧ exTo ls ms (leavesL (walkF (ofF ls) (ofF ms)).1) i) (fun i => 16 - i) 0 ⟨Nat.zero_le _, fun i hi => absurd hi (Nat.not_lt_zero _)⟩ (by exact knA) (by exact knA) ?_
  rintro i β γ ⟨hi, hx⟩
  generalize leavesL (walkF (ofF ls) (ofF ms)).1 = l at *
  have o1 := okT_get ol (i : Int).toNat
  have o2 := okT_get om (i : Int).toNat
  by_cases h16 : i < 16
  · have hlt : decide ((i : Int) < 16) = true := decide_eq_true (by omega)
    by_cases hv : decide ((i : Int) ∈ l) = decide (ls.getD (i : Int).toNat default = ms.getD (i : Int).toNat default)
    · have hd : (decide ((i : Int) ∈ l) == decide (ls.getD (i : Int).toNat default = ms.getD (i : Int).toNat default)) = true := by rw [hv]; simp
      repeat' (first
          | refine rnB ?_
          | refine rnSB ?_
          | refine rnG ?_
          | refine rnU ?_
          | ((fail_if_success (refine rnKn ?_)); refine rnP ?_ ?_ <;> (intro hq; try (have hq' := hq; simp only [hqs] at hq')))
          | refine rkB ?_
          | refine rkSB ?_
          | refine rkF ?_
          | refine rkU ?_
          | ((fail_if_success (refine rkKn ?_)); refine rkP ?_ ?_ <;> (intro hq; try (have hq' := hq; simp only [hqs] at hq')))
          | refine stp ?_
          | refine aws_draws [] mixed (by kernel_rfl) ?_
          | refine ifT ?_
          | refine ifF ?_
          | (refine ifQ ?_ ?_ <;> (try (intro hn)))
          | (refine ifB ?_ ?_ <;> (intro hq; try (have hq' := hq; simp only [hqs] at hq'))))
      refine rt1 rfl rfl finS_p (rb ?_)
      rw [Int.toNat_natCast] at hv
      exact decide_eq_false fun q => q i h16 hv
    · have hd : (decide ((i : Int) ∈ l) == decide (ls.getD (i : Int).toNat default = ms.getD (i : Int).toNat default)) = false := by simpa using hv
      repeat' (first
          | refine rnB ?_
          | refine rnSB ?_
          | refine rnG ?_
          | refine rnU ?_
          | ((fail_if_success (refine rnKn ?_)); refine rnP ?_ ?_ <;> (intro hq; try (have hq' := hq; simp only [hqs] at hq')))
          | refine rkB ?_
          | refine rkSB ?_
          | refine rkF ?_
          | refine rkU ?_
          | ((fail_if_success (refine rkKn ?_)); refine rkP ?_ ?_ <;> (intro hq; try (have hq' := hq; simp only [hqs] at hq')))
          | refine stp ?_
          | refine aws_draws [] mixed (by kernel_rfl) ?_
          | refine ifT ?_
          | refine ifF ?_
          | (refine ifQ ?_ ?_ <;> (try (intro hn)))
          | (refine ifB ?_ ?_ <;> (intro hq; try (have hq' := hq; simp only [hqs] at hq'))))
      rw [Int.toNat_natCast] at hv
      exact ⟨i + 1, _, by omega, ⟨by omega, exTo_succ hx hv⟩, .refl, by exact frA⟩
  · have hlt : decide ((i : Int) < 16) = false := decide_eq_false (by omega)
    repeat' (first
        | refine rnB ?_
        | refine rnSB ?_
        | refine rnG ?_
        | refine rnU ?_
        | ((fail_if_success (refine rnKn ?_)); refine rnP ?_ ?_ <;> (intro hq; try (have hq' := hq; simp only [hqs] at hq')))
        | refine rkB ?_
        | refine rkSB ?_
        | refine rkF ?_
        | refine rkU ?_
        | ((fail_if_success (refine rkKn ?_)); refine rkP ?_ ?_ <;> (intro hq; try (have hq' := hq; simp only [hqs] at hq')))
        | refine stp ?_
        | refine aws_draws [] mixed (by kernel_rfl) ?_
        | refine ifT ?_
        | refine ifF ?_
        | (refine ifQ ?_ ?_ <;> (try (intro hn)))
        | (refine ifB ?_ ?_ <;> (intro hq; try (have hq' := hq; simp only [hqs] at hq'))))
    refine rt1 rfl rfl finS_p (rb ?_)
    rw [show i = 16 by omega] at hx
    exact decide_eq_true hx
instance {ls ms : List (List Nat)} : PC Try.prog 22 [txs ls, txs ms] (few ls ∧ few ms ∧ okT ls ∧ okT ms) (.p (.b (decide (exTo ls ms (leavesL (walkF (ofF ls) (ofF ms)).1) 16)))) := ⟨exact_w ls ms⟩
end Go.Proofs.Ytpamepepibnlfaa.Cl
