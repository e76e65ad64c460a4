/- clashes: is there one at a place? -/
import Derived.Test.YtpamepepibnlfaaClE
namespace Go.Proofs.Ytpamepepibnlfaa.Cl
open Go Go.RowKit Go.Aw Go.Aw.Sha Go.Aw.Tree Go.Aw.Clash Go.Proofs.Ytpamepepibnlfaa.Sh Go.Proofs.Ytpamepepibnlfaa.Tr
set_option linter.unusedVariables false
set_option linter.unusedSimpArgs false
set_option maxRecDepth 8000
attribute [local irreducible] sum
set_option maxHeartbeats 4000000
abbrev tbx (T : List Nat) : AV := .p (.bx (T.map fun n : Nat => PVal.k .u8 (n : Int)) 0)
abbrev lbx (ls : List (List Nat)) : AV := .p (.bx (ls.map fun b => bytesP b false) 0)
theorem at1_w (ls ms : List (List Nat)) (T U : List Nat) (p : Int) (h : few ls ∧ few ms ∧ T.length = 672 ∧ U.length = 672 ∧ okB (madeF ls T p) ∧ okB (madeF ms U p) ∧ 0 ≤ p ∧ p < 21) : PCall Try.prog 52 [.p (.i p), tbx T, tbx U, lbx ls, lbx ms] (.p (.b (clashB ls ms T U p.toNat))) := by
  refine pcall_of Try.func52 rfl (fun w0 F S0 M0 => ?_)
  obtain ⟨hl, hm, hT, hU, o1, o2, hp0, hp⟩ := h
  have hl16 := hl.1
  have hm16 := hm.1
  have r1 : (rowOf 32 T p.toNat).length = 32 := row_len hT (by omega)
  have r2 : (rowOf 32 U p.toNat).length = 32 := row_len hU (by omega)
  have e : clashB ls ms T U p.toNat = (decide (rowOf 32 T p.toNat = rowOf 32 U p.toNat) && !decide (madeF ls T p = madeF ms U p)) := by
    unfold clashB; rw [Int.toNat_of_nonneg hp0]
  rw [e]
  by_cases h0 : rowOf 32 T p.toNat = rowOf 32 U p.toNat
  · have hd : decide (rowOf 32 T p.toNat = rowOf 32 U p.toNat) = true := decide_eq_true h0
    repeat' (first
        | refine rnZ ?_
        | refine rnSB ?_
        | refine rnG ?_
        | refine rnU ?_
        | ((fail_if_success (refine rnKn ?_)); refine rnP ?_ ?_ <;> (intro hq; try (have hq' := hq; simp only [hqs] at hq')))
        | refine rkZ ?_
        | refine rkSB ?_
        | refine rkF ?_
        | refine rkU ?_
        | ((fail_if_success (refine rkKn ?_)); refine rkP ?_ ?_ <;> (intro hq; try (have hq' := hq; simp only [hqs] at hq')))
        | refine stp ?_
        | refine aws_draws [] mixed (by kernel_rfl) ?_
        | refine ifT ?_
        | refine ifF ?_
        | (refine ifQ ?_ ?_ <;> (try (intro hn)))
        | (refine ifB ?_ ?_ <;> (intro hq; try (have hq' := hq; simp only [hqs] at hq'))))
    exact rt1 rfl rfl finS_p (rb (by rw [hd]; rfl))
  · have hd : decide (rowOf 32 T p.toNat = rowOf 32 U p.toNat) = false := decide_eq_false h0
    repeat' (first
        | refine rnZ ?_
        | refine rnSB ?_
        | refine rnG ?_
        | refine rnU ?_
        | ((fail_if_success (refine rnKn ?_)); refine rnP ?_ ?_ <;> (intro hq; try (have hq' := hq; simp only [hqs] at hq')))
        | refine rkZ ?_
        | refine rkSB ?_
        | refine rkF ?_
        | refine rkU ?_
        | ((fail_if_success (refine rkKn ?_)); refine rkP ?_ ?_ <;> (intro hq; try (have hq' := hq; simp only [hqs] at hq')))
        | refine stp ?_
        | refine aws_draws [] mixed (by kernel_rfl) ?_
        | refine ifT ?_
        | refine ifF ?_
        | (refine ifQ ?_ ?_ <;> (try (intro hn)))
        | (refine ifB ?_ ?_ <;> (intro hq; try (have hq' := hq; simp only [hqs] at hq'))))
    exact rt1 rfl rfl finS_p (rb (by rw [hd]; rfl))
instance {ls ms : List (List Nat)} {T U : List Nat} {p : Int} : PC Try.prog 52 [.p (.i p), tbx T, tbx U, lbx ls, lbx ms] (few ls ∧ few ms ∧ T.length = 672 ∧ U.length = 672 ∧ okB (madeF ls T p) ∧ okB (madeF ms U p) ∧ 0 ≤ p ∧ p < 21) (.p (.b (clashB ls ms T U p.toNat))) := ⟨at1_w ls ms T U p⟩
end Go.Proofs.Ytpamepepibnlfaa.Cl
