/- trees, the reference: of texts, and with another text -/
import Derived.Test.YtpamepepibnlfaaTrE
import Derived.Test.YtpamepepibnlfaaTrA
namespace Go.Proofs.Ytpamepepibnlfaa.Tr
open Go Go.RowKit Go.Aw Go.Aw.Sha Go.Aw.Tree Go.Proofs.Ytpamepepibnlfaa.Sh
set_option linter.unusedVariables false
set_option linter.unusedSimpArgs false
set_option maxRecDepth 8000
set_option maxHeartbeats 4000000
attribute [local irreducible] sum

abbrev strs (ls : List (List Nat)) : AV := .a (ls.map fun b => .p (.v (.string (strOf b))))
def okT (ls : List (List Nat)) : Prop := ∀ b ∈ ls, okB b
theorem okT_get {ls : List (List Nat)} (h : okT ls) (i : Nat) : okB (ls.getD i default) := by
  rw [List.getD_eq_getElem?_getD]
  cases hx : ls[i]? with
  | none => exact .nil
  | some x => exact h x (List.mem_of_getElem? hx)
theorem okB_leaves (ls : List (List Nat)) : ∀ i, okB (leavesTo ls i)
  | 0 => fun n hn => by rw [leavesTo] at hn; rw [List.eq_of_mem_replicate hn]; decide
  | i + 1 => okB_set (okB_leaves ls i) (okB_sum _) _
theorem rof_c (ls : List (List Nat)) (h : few ls) (ho : okT ls) : PCall Try.prog 49 [strs ls] (tv (ofF ls)) := by
  refine pcall_of Try.func49 rfl (fun w0 F S0 M0 => ?_)
  have hl16 := h.1
  repeat' (first
      | refine rnB ?_
      | refine rnSB ?_
      | refine rnG ?_
      | refine rnU ?_
      | ((fail_if_success (refine rnKn ?_)); refine rnP ?_ ?_ <;> (intro hq; try (have hq' := hq; simp only [hqs] at hq')))
      | refine rkB ?_
      | refine rkSB ?_
      | refine rkF ?_
      | refine rkU ?_
      | ((fail_if_success (refine rkKn ?_)); refine rkP ?_ ?_ <;> (intro hq; try (have hq' := hq; simp only [hqs] at hq')))
      | refine stp ?_
      | refine ifT ?_
      | refine ifF ?_
      | (refine ifQ ?_ ?_ <;> (try (intro hn)))
      | (refine ifB ?_ ?_ <;> (intro hq; try (have hq' := hq; simp only [hqs] at hq'))))
  refine aws_loopS [4, 5, 6, 7, 8, 9, 10, 11, 12, 13, 14, 15] [3] (fun (i : Nat) => [(4, .p (.i i))]) (fun i => [(3, (1, some (.box 43 ((leavesTo ls i).map bc))))])
    (fun i => i ≤ 16) (fun i => 16 - i) 0 (Nat.zero_le _) (by exact knA) (by exact knA) ?_
  rintro i β γ hi
  have hfl := few_get h (i : Int).toNat
  have hfo := okT_get ho (i : Int).toNat
  have hll := leavesTo_len ls i hi
  have hlo := okB_leaves ls i
  have hdl : (leafD (ls.getD (i : Int).toNat default)).length = 32 := leafD_len _
  by_cases hi16 : i < 16
  · have hd : decide ((i : Int) < 16) = true := decide_eq_true (by omega)
    repeat' (first
        | refine rnB ?_
        | refine rnSB ?_
        | refine rnG ?_
        | refine rnU ?_
        | ((fail_if_success (refine rnKn ?_)); refine rnP ?_ ?_ <;> (intro hq; try (have hq' := hq; simp only [hqs] at hq')))
        | refine rkB ?_
        | refine rkSB ?_
        | refine rkF ?_
        | refine rkU ?_
        | ((fail_if_success (refine rkKn ?_)); refine rkP ?_ ?_ <;> (intro hq; try (have hq' := hq; simp only [hqs] at hq')))
        | refine stp ?_
        | refine ifT ?_
        | refine ifF ?_
        | (refine ifQ ?_ ?_ <;> (try (intro hn)))
        | (refine ifB ?_ ?_ <;> (intro hq; try (have hq' := hq; simp only [hqs] at hq'))))
    refine ⟨i + 1, _, by omega, by omega, .refl, ?_⟩
    have e : leavesTo ls (i + 1) = setRow 32 (leavesTo ls i) (5 + (i : Int)).toNat (leafD (ls.getD (i : Int).toNat default)) := by
      rw [leavesTo, Int.toNat_natCast]; congr 1
    rw [e]
    exact frA
  · have hd : decide ((i : Int) < 16) = false := decide_eq_false (by omega)
    have hof : ofF ls = innerF (leavesTo ls i) := by rw [show i = 16 by omega]; rfl
    clear hdl hfl hfo
    rw [hof]
    generalize leavesTo ls i = L at hll hlo ⊢
    have hil : (innerF L).length = 672 := innerTo_len hll 5
    repeat' (first
        | refine rnB ?_
        | refine rnSB ?_
        | refine rnG ?_
        | refine rnU ?_
        | ((fail_if_success (refine rnKn ?_)); refine rnP ?_ ?_ <;> (intro hq; try (have hq' := hq; simp only [hqs] at hq')))
        | refine rkB ?_
        | refine rkSB ?_
        | refine rkF ?_
        | refine rkU ?_
        | ((fail_if_success (refine rkKn ?_)); refine rkP ?_ ?_ <;> (intro hq; try (have hq' := hq; simp only [hqs] at hq')))
        | refine stp ?_
        | refine ifT ?_
        | refine ifF ?_
        | (refine ifQ ?_ ?_ <;> (try (intro hn)))
        | (refine ifB ?_ ?_ <;> (intro hq; try (have hq' := hq; simp only [hqs] at hq'))))
    exact rc1 rfl rfl rfl rfl rfl (by simpa using hil) finL_p rfl
instance {ls : List (List Nat)} : PC Try.prog 49 [strs ls] (few ls ∧ okT ls) (tv (ofF ls)) := ⟨fun h => rof_c ls h.1 h.2⟩

end Go.Proofs.Ytpamepepibnlfaa.Tr
