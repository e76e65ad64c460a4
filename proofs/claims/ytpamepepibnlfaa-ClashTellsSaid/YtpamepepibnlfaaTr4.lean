/- trees: what is above and below a place. -/
import Derived.Test.YtpamepepibnlfaaTrM
import Derived.Test.YtpamepepibnlfaaSh8
import Derived.Test.YtpamepepibnlfaaKf
namespace Go.Proofs.Ytpamepepibnlfaa.Tr
open Go Go.RowKit Go.Aw Go.Aw.Sha Go.Aw.Tree Go.Proofs.Ytpamepepibnlfaa.Sh
set_option linter.unusedVariables false
set_option linter.unusedSimpArgs false
set_option maxRecDepth 8000
abbrev ints (l : List Int) (ex : Bool) : AV := .p (.sl 1 (l.map fun n => [PVal.i n]) ex)

theorem isPlace_c (p : Int) : PCall Try.prog 129 [.p (.i p)] (.p (.b (plc p))) := by
  refine pcall_of Try.func129 rfl (fun w0 F S0 M0 => ?_)
  repeat' (first
      | refine rnA ?_
      | refine rnS ?_
      | refine rnG ?_
      | refine rnU ?_
      | ((fail_if_success (refine rnKn ?_)); refine rnP ?_ ?_ <;> (intro hq; try (have hq' := hq; simp only [hqs] at hq')))
      | refine rkA ?_
      | refine rkS ?_
      | refine rkF ?_
      | refine rkU ?_
      | ((fail_if_success (refine rkKn ?_)); refine rkP ?_ ?_ <;> (intro hq; try (have hq' := hq; simp only [hqs] at hq')))
      | refine stp ?_
      | refine aws_draws [] mixed (by kernel_rfl) ?_
      | refine ifT ?_
      | refine ifF ?_
      | (refine ifQ ?_ ?_ <;> (try (intro hn)))
      | (refine ifB ?_ ?_ <;> (intro hq; try (have hq' := hq; simp only [hqs] at hq'))))
  all_goals (refine rt1 rfl rfl finS_p ?_; simp [plc, *]; try omega)
instance {p : Int} : PC Try.prog 129 [.p (.i p)] True (.p (.b (plc p))) := ⟨fun _ => isPlace_c p⟩
theorem plc_cases (p : Int) : (plc p = true ∧ (0 ≤ p ∧ p < 21) ∧ (!plc p) = false) ∨ (plc p = false ∧ ¬ (0 ≤ p ∧ p < 21) ∧ (!plc p) = true) := by
  by_cases h : 0 ≤ p ∧ p < 21
  · have : plc p = true := by simp [plc, h]
    exact .inl ⟨this, h, by rw [this]; rfl⟩
  · have : plc p = false := decide_eq_false h
    exact .inr ⟨this, h, by rw [this]; rfl⟩

theorem leafOf_c (p : Int) : PCall Try.prog 93 [.p (.i p)] (.p (.i (leafOf p))) := by
  refine pcall_of Try.func93 rfl (fun w0 F S0 M0 => ?_)
  rcases plc_cases p with ⟨h0, h1, h0'⟩ | ⟨h0, h1, h0'⟩
  all_goals repeat' (first
    | refine rnA ?_
    | refine rnS ?_
    | refine rnG ?_
    | refine rnU ?_
    | ((fail_if_success (refine rnKn ?_)); refine rnP ?_ ?_ <;> (intro hq; try (have hq' := hq; simp only [hqs] at hq')))
    | refine rkA ?_
    | refine rkS ?_
    | refine rkF ?_
    | refine rkU ?_
    | ((fail_if_success (refine rkKn ?_)); refine rkP ?_ ?_ <;> (intro hq; try (have hq' := hq; simp only [hqs] at hq')))
    | refine stp ?_
    | refine aws_draws [] mixed (by kernel_rfl) ?_
    | refine ifT ?_
    | refine ifF ?_
    | (refine ifQ ?_ ?_ <;> (try (intro hn)))
    | (refine ifB ?_ ?_ <;> (intro hq; try (have hq' := hq; simp only [hqs] at hq'))))
  all_goals first | (refine rt1 rfl rfl finS_p ?_; unfold leafOf; split <;> first | rfl | (exfalso; omega)) | (exfalso; simp_all; done)
instance {p : Int} : PC Try.prog 93 [.p (.i p)] True (.p (.i (leafOf p))) := ⟨fun _ => leafOf_c p⟩

theorem rlevel_c (p : Int) : PCall Try.prog 96 [.p (.i p)] (.p (.i (levelF p))) := by
  refine pcall_of Try.func96 rfl (fun w0 F S0 M0 => ?_)
  repeat' (first
      | refine rnA ?_
      | refine rnS ?_
      | refine rnG ?_
      | refine rnU ?_
      | ((fail_if_success (refine rnKn ?_)); refine rnP ?_ ?_ <;> (intro hq; try (have hq' := hq; simp only [hqs] at hq')))
      | refine rkA ?_
      | refine rkS ?_
      | refine rkF ?_
      | refine rkU ?_
      | ((fail_if_success (refine rkKn ?_)); refine rkP ?_ ?_ <;> (intro hq; try (have hq' := hq; simp only [hqs] at hq')))
      | refine stp ?_
      | refine aws_draws [] mixed (by kernel_rfl) ?_
      | refine ifT ?_
      | refine ifF ?_
      | (refine ifQ ?_ ?_ <;> (try (intro hn)))
      | (refine ifB ?_ ?_ <;> (intro hq; try (have hq' := hq; simp only [hqs] at hq'))))
  all_goals first | (refine rt1 rfl rfl finS_p (ri ?_); unfold levelF; (repeat' split) <;> first | rfl | (exfalso; omega)) | (exfalso; simp_all; omega)
instance {p : Int} : PC Try.prog 96 [.p (.i p)] True (.p (.i (levelF p))) := ⟨fun _ => rlevel_c p⟩

end Go.Proofs.Ytpamepepibnlfaa.Tr
