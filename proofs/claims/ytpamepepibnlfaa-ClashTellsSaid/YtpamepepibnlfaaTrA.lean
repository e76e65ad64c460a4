/- trees: of texts -/
import Derived.Test.YtpamepepibnlfaaTr8
import Derived.Test.YtpamepepibnlfaaTr1
import Derived.Test.YtpamepepibnlfaaKf
namespace Go.Proofs.Ytpamepepibnlfaa.Tr
open Go Go.RowKit Go.Aw Go.Aw.Sha Go.Aw.Tree Go.Proofs.Ytpamepepibnlfaa.Sh
set_option linter.unusedVariables false
set_option linter.unusedSimpArgs false
set_option maxRecDepth 8000
attribute [local irreducible] sum
set_option maxHeartbeats 4000000

abbrev txs (ls : List (List Nat)) : AV := .a (ls.map fun b => .p (bytesP b false))
def few (ls : List (List Nat)) : Prop := ls.length = 16 ∧ ∀ b ∈ ls, b.length ≤ 400000000
theorem few_get {ls : List (List Nat)} (h : few ls) (i : Nat) : (ls.getD i default).length ≤ 400000000 := by
  rw [List.getD_eq_getElem?_getD]
  cases hx : ls[i]? with
  | none => exact Nat.zero_le _
  | some x => exact h.2 x (List.mem_of_getElem? hx)
theorem of_c (ls : List (List Nat)) (h : few ls) : PCall Try.prog 26 [txs ls] (tv (ofF ls)) := by
  refine pcall_of Try.func26 rfl (fun w0 F S0 M0 => ?_)
  have hl16 := h.1
  repeat' (first
      | refine rnB ?_
      | refine rnSB ?_
      | refine rnG ?_
      | refine rnU ?_
      | ((fail_if_success (refine rnKn ?_)); refine rnP ?_ ?_ <;> (intro hq; try (have hq' := hq; simp only [hqs] at hq')))
      | refine rkB ?_
      | refine rkSB ?_
      | refine rkF ?_
      | refine rkU ?_
      | ((fail_if_success (refine rkKn ?_)); refine rkP ?_ ?_ <;> (intro hq; try (have hq' := hq; simp only [hqs] at hq')))
      | refine stp ?_
      | refine ifT ?_
      | refine ifF ?_
      | (refine ifQ ?_ ?_ <;> (try (intro hn)))
      | (refine ifB ?_ ?_ <;> (intro hq; try (have hq' := hq; simp only [hqs] at hq'))))
  refine aws_loopS [4, 5, 8, 9, 10, 11, 12, 13, 14, 15, 16, 17] [3] (fun (i : Nat) => [(8, .p (.i i))]) (fun i => [(3, (1, some (.box 44 ((leavesTo ls i).map bc))))])
    (fun i => i ≤ 16) (fun i => 16 - i) 0 (Nat.zero_le _) (by exact knA) (by exact knA) ?_
  · rintro i β γ hi
    have hfl := few_get h (i : Int).toNat
    have hll := leavesTo_len ls i hi
    have hdl : (leafD (ls.getD (i : Int).toNat default)).length = 32 := leafD_len _
    by_cases hi16 : i < 16
    · have hd : decide ((i : Int) < 16) = true := decide_eq_true (by omega)
      repeat' (first
          | refine rnB ?_
          | refine rnSB ?_
          | refine rnG ?_
          | refine rnU ?_
          | ((fail_if_success (refine rnKn ?_)); refine rnP ?_ ?_ <;> (intro hq; try (have hq' := hq; simp only [hqs] at hq')))
          | refine rkB ?_
          | refine rkSB ?_
          | refine rkF ?_
          | refine rkU ?_
          | ((fail_if_success (refine rkKn ?_)); refine rkP ?_ ?_ <;> (intro hq; try (have hq' := hq; simp only [hqs] at hq')))
          | refine stp ?_
          | refine ifT ?_
          | refine ifF ?_
          | (refine ifQ ?_ ?_ <;> (try (intro hn)))
          | (refine ifB ?_ ?_ <;> (intro hq; try (have hq' := hq; simp only [hqs] at hq'))))
      refine ⟨i + 1, _, by omega, by omega, .refl, ?_⟩
      have e : leavesTo ls (i + 1) = setRow 32 (leavesTo ls i) (5 + (i : Int)).toNat (leafD (ls.getD (i : Int).toNat default)) := by
        rw [leavesTo, Int.toNat_natCast]; congr 1
      rw [e]
      exact frA
    · have hd : decide ((i : Int) < 16) = false := decide_eq_false (by omega)
      have hof : ofF ls = innerTo (leavesTo ls i) 5 := by rw [show i = 16 by omega]; rfl
      clear hdl hfl
      rw [hof]
      generalize leavesTo ls i = L at hll ⊢
      repeat' (first
          | refine rnB ?_
          | refine rnSB ?_
          | refine rnG ?_
          | refine rnU ?_
          | ((fail_if_success (refine rnKn ?_)); refine rnP ?_ ?_ <;> (intro hq; try (have hq' := hq; simp only [hqs] at hq')))
          | refine rkB ?_
          | refine rkSB ?_
          | refine rkF ?_
          | refine rkU ?_
          | ((fail_if_success (refine rkKn ?_)); refine rkP ?_ ?_ <;> (intro hq; try (have hq' := hq; simp only [hqs] at hq')))
          | refine stp ?_
          | refine ifT ?_
          | refine ifF ?_
          | (refine ifQ ?_ ?_ <;> (try (intro hn)))
          | (refine ifB ?_ ?_ <;> (intro hq; try (have hq' := hq; simp only [hqs] at hq'))))
      refine aws_loopS [6, 18, 19, 20, 21, 22, 23, 24, 25, 26, 27, 28] [3] (fun (x : Nat × Int) => [(6, .p (.i x.2))]) (fun x => [(3, (1, some (.box 44 ((innerTo L x.1).map bc))))])
        (fun x => x.1 ≤ 5 ∧ x.2 = 4 - (x.1 : Int)) (fun x => 5 - x.1) (0, 4) ⟨Nat.zero_le _, rfl⟩ (by exact knA) (by exact knA) ?_
      rintro ⟨k, t⟩ β γ ⟨hk, ht⟩
      simp only at hk ht
      have hil := innerTo_len hll k
      have hbl := belowF_len (T := innerTo L k) (p := t) hil
      have hsl : (sum (belowF (innerTo L k) t)).length = 32 := sumLen _
      dsimp only
      by_cases hk5 : k < 5
      · have hd : decide (0 ≤ t) = true := decide_eq_true (by omega)
        repeat' (first
            | refine rnB ?_
            | refine rnSB ?_
            | refine rnG ?_
            | refine rnU ?_
            | ((fail_if_success (refine rnKn ?_)); refine rnP ?_ ?_ <;> (intro hq; try (have hq' := hq; simp only [hqs] at hq')))
            | refine rkB ?_
            | refine rkSB ?_
            | refine rkF ?_
            | refine rkU ?_
            | ((fail_if_success (refine rkKn ?_)); refine rkP ?_ ?_ <;> (intro hq; try (have hq' := hq; simp only [hqs] at hq')))
            | refine stp ?_
            | refine ifT ?_
            | refine ifF ?_
            | (refine ifQ ?_ ?_ <;> (try (intro hn)))
            | (refine ifB ?_ ?_ <;> (intro hq; try (have hq' := hq; simp only [hqs] at hq'))))
        refine ⟨(k + 1, t - 1), _, by dsimp only; omega, ⟨by dsimp only; omega, by dsimp only; omega⟩, .refl, ?_⟩
        have e : innerTo L (k + 1) = setRow 32 (innerTo L k) t.toNat (sum (belowF (innerTo L k) t)) := by
          obtain rfl : t = ((4 - k : Nat) : Int) := by omega
          rw [innerTo, fixF, Int.toNat_natCast]
        dsimp only
        rw [e]
        exact frA
      · have hd : decide (0 ≤ t) = false := decide_eq_false (by omega)
        have hk5' : innerTo L 5 = innerTo L k := by rw [show k = 5 by omega]
        rw [hk5']
        repeat' (first
            | refine rnB ?_
            | refine rnSB ?_
            | refine rnG ?_
            | refine rnU ?_
            | ((fail_if_success (refine rnKn ?_)); refine rnP ?_ ?_ <;> (intro hq; try (have hq' := hq; simp only [hqs] at hq')))
            | refine rkB ?_
            | refine rkSB ?_
            | refine rkF ?_
            | refine rkU ?_
            | ((fail_if_success (refine rkKn ?_)); refine rkP ?_ ?_ <;> (intro hq; try (have hq' := hq; simp only [hqs] at hq')))
            | refine stp ?_
            | refine ifT ?_
            | refine ifF ?_
            | (refine ifQ ?_ ?_ <;> (try (intro hn)))
            | (refine ifB ?_ ?_ <;> (intro hq; try (have hq' := hq; simp only [hqs] at hq'))))
        exact rc1 rfl rfl rfl rfl rfl (by simpa using hil) finL_p rfl
instance {ls : List (List Nat)} : PC Try.prog 26 [txs ls] (few ls) (tv (ofF ls)) := ⟨of_c ls⟩
end Go.Proofs.Ytpamepepibnlfaa.Tr
