/- Trees of digests in plain Lean: 21 rows of 32 bytes in one flat list. Nothing here speaks of a program.; trees: what is above and below a place. -/
import Derived.Test.YtclcfjejpogdlaaGreatPP28
import Derived.Test.YtclcfjejpogdlaaGreatPP05
import Derived.Test.YtclcfjejpogdlaaGreatPP31
namespace Go.Aw.Tree
open Go.Aw Go.Aw.Sha
set_option linter.unusedVariables false
set_option linter.unusedSimpArgs false
attribute [local irreducible] sum
def plc (p : Int) : Bool := decide (0 ≤ p ∧ p < 21)
def upF (p : Int) : Int := if 1 ≤ p ∧ p ≤ 20 then (p - 1) / 4 else -1
def leafOf (p : Int) : Int := if 5 ≤ p ∧ p < 21 then p - 5 else -1
def levelF (p : Int) : Int := if p = 0 then 0 else if 1 ≤ p ∧ p ≤ 4 then 1 else if 5 ≤ p ∧ p ≤ 20 then 2 else -1
theorem upF_lt {p : Int} (h : plc p = true) : (upF p + 1).toNat < (p + 1).toNat := by
  have h1 : 0 ≤ p ∧ p < 21 := of_decide_eq_true h
  unfold upF; split <;> omega
theorem levelF_up {p : Int} (h : plc p = true) : levelF p = levelF (upF p) + 1 := by
  have h1 : 0 ≤ p ∧ p < 21 := of_decide_eq_true h
  unfold upF
  by_cases h2 : 1 ≤ p ∧ p ≤ 20
  · rw [if_pos h2]; unfold levelF
    repeat' split
    all_goals omega
  · rw [if_neg h2]; unfold levelF
    repeat' split
    all_goals omega
theorem levelF_in (p : Int) : -1 ≤ levelF p ∧ levelF p ≤ 2 := by
  unfold levelF
  repeat' split
  all_goals omega
theorem levelF_out {p : Int} (h : plc p = false) : levelF p = -1 := by
  have h1 : ¬ (0 ≤ p ∧ p < 21) := of_decide_eq_false h
  unfold levelF
  repeat' split
  all_goals omega
abbrev row (T : List Nat) (p : Nat) : List Nat := rowOf 32 T p
def belowTo (T : List Nat) (p : Int) : Nat → List Nat
  | 0 => [1]
  | i + 1 => belowTo T p i ++ row T (4 * p + 1 + i).toNat
def belowF (T : List Nat) (p : Int) : List Nat := if 0 ≤ p ∧ p ≤ 4 then belowTo T p 4 else []
def okTo (T : List Nat) (n : Nat) : Prop := ∀ p, p < n → row T p = sum (belowF T p)
instance {T : List Nat} {n : Nat} : Decidable (okTo T n) := inferInstanceAs (Decidable (∀ p, p < n → row T p = sum (belowF T p)))
def rightF (T : List Nat) : Bool := decide (okTo T 5)
end Go.Aw.Tree
namespace Go.Proofs.YtclcfjejpogdlaaGreat.Tr
open Go Go.RowKit Go.Aw Go.Aw.Sha Go.Aw.Tree Go.Proofs.YtclcfjejpogdlaaGreat.Sh
set_option linter.unusedVariables false
set_option linter.unusedSimpArgs false
set_option maxRecDepth 8000
abbrev ints (l : List Int) (ex : Bool) : AV := .p (.sl 1 (l.map fun n => [PVal.i n]) ex)
theorem isPlace_c (p : Int) : PCall Tryz.prog 232 [.p (.i p)] (.p (.b (plc p))) := by
  refine pcall_of Tryz.func232 rfl (fun w0 F S0 M0 => ?_)
  repeat' (first | refine rnA ?_ | refine rnS ?_ | refine rnG ?_ | refine rnU ?_ | ((fail_if_success (refine rnKn ?_)); refine rnP ?_ ?_ <;> (intro hq; try (have hq' := hq; simp only [hqs] at hq'))) | refine rkA ?_ | refine rkS ?_ | refine rkF ?_ | refine rkU ?_ | ((fail_if_success (refine rkKn ?_)); refine rkP ?_ ?_ <;> (intro hq; try (have hq' := hq; simp only [hqs] at hq'))) | refine stp ?_ | refine aws_draws [] mixed (by kernel_rfl) ?_ | refine ifT ?_ | refine ifF ?_ | (refine ifQ ?_ ?_ <;> (try (intro hn))) | (refine ifB ?_ ?_ <;> (intro hq; try (have hq' := hq; simp only [hqs] at hq'))))
  all_goals (refine rt1 rfl rfl finS_p ?_; simp [plc, *]; try omega)
instance {p : Int} : PC Tryz.prog 232 [.p (.i p)] True (.p (.b (plc p))) := ⟨fun _ => isPlace_c p⟩
theorem plc_cases (p : Int) : (plc p = true ∧ (0 ≤ p ∧ p < 21) ∧ (!plc p) = false) ∨ (plc p = false ∧ ¬ (0 ≤ p ∧ p < 21) ∧ (!plc p) = true) := by
  by_cases h : 0 ≤ p ∧ p < 21
  · have : plc p = true := by simp [plc, h]
    exact .inl ⟨this, h, by rw [this]; rfl⟩
  · have : plc p = false := decide_eq_false h
    exact .inr ⟨this, h, by rw [this]; rfl⟩
theorem leafOf_c (p : Int) : PCall Tryz.prog 187 [.p (.i p)] (.p (.i (leafOf p))) := by
  refine pcall_of Tryz.func187 rfl (fun w0 F S0 M0 => ?_)
  rcases plc_cases p with ⟨h0, h1, h0'⟩ | ⟨h0, h1, h0'⟩
  all_goals repeat' (first | refine rnA ?_ | refine rnS ?_ | refine rnG ?_ | refine rnU ?_ | ((fail_if_success (refine rnKn ?_)); refine rnP ?_ ?_ <;> (intro hq; try (have hq' := hq; simp only [hqs] at hq'))) | refine rkA ?_ | refine rkS ?_ | refine rkF ?_ | refine rkU ?_ | ((fail_if_success (refine rkKn ?_)); refine rkP ?_ ?_ <;> (intro hq; try (have hq' := hq; simp only [hqs] at hq'))) | refine stp ?_ | refine aws_draws [] mixed (by kernel_rfl) ?_ | refine ifT ?_ | refine ifF ?_ | (refine ifQ ?_ ?_ <;> (try (intro hn))) | (refine ifB ?_ ?_ <;> (intro hq; try (have hq' := hq; simp only [hqs] at hq'))))
  all_goals first | (refine rt1 rfl rfl finS_p ?_; unfold leafOf; split <;> first | rfl | (exfalso; omega)) | (exfalso; simp_all; done)
theorem up_c (p : Int) : PCall Tryz.prog 240 [.p (.i p)] (.p (.i (upF p))) := by
  refine pcall_of Tryz.func240 rfl (fun w0 F S0 M0 => ?_)
  rcases plc_cases p with ⟨h0, h1, h0'⟩ | ⟨h0, h1, h0'⟩
  all_goals repeat' (first | refine rnA ?_ | refine rnS ?_ | refine rnG ?_ | refine rnU ?_ | ((fail_if_success (refine rnKn ?_)); refine rnP ?_ ?_ <;> (intro hq; try (have hq' := hq; simp only [hqs] at hq'))) | refine rkA ?_ | refine rkS ?_ | refine rkF ?_ | refine rkU ?_ | ((fail_if_success (refine rkKn ?_)); refine rkP ?_ ?_ <;> (intro hq; try (have hq' := hq; simp only [hqs] at hq'))) | refine stp ?_ | refine aws_draws [] mixed (by kernel_rfl) ?_ | refine ifT ?_ | refine ifF ?_ | (refine ifQ ?_ ?_ <;> (try (intro hn))) | (refine ifB ?_ ?_ <;> (intro hq; try (have hq' := hq; simp only [hqs] at hq'))))
  all_goals first | (refine rt1 rfl rfl finS_p ?_; unfold upF; split <;> first | rfl | (exfalso; omega)) | (exfalso; simp_all; done)
instance {p : Int} : PC Tryz.prog 240 [.p (.i p)] True (.p (.i (upF p))) := ⟨fun _ => up_c p⟩
theorem level_c (p : Int) : PCall Tryz.prog 196 [.p (.i p)] (.p (.i (levelF p))) := by
  refine pcall_of Tryz.func196 rfl (fun w0 F S0 M0 => ?_)
  repeat' (first | refine rnA ?_ | refine rnS ?_ | refine rnG ?_ | refine rnU ?_ | ((fail_if_success (refine rnKn ?_)); refine rnP ?_ ?_ <;> (intro hq; try (have hq' := hq; simp only [hqs] at hq'))) | refine rkA ?_ | refine rkS ?_ | refine rkF ?_ | refine rkU ?_ | ((fail_if_success (refine rkKn ?_)); refine rkP ?_ ?_ <;> (intro hq; try (have hq' := hq; simp only [hqs] at hq'))) | refine stp ?_ | refine aws_draws [] mixed (by kernel_rfl) ?_ | refine ifT ?_ | refine ifF ?_ | (refine ifQ ?_ ?_ <;> (try (intro hn))) | (refine ifB ?_ ?_ <;> (intro hq; try (have hq' := hq; simp only [hqs] at hq'))))
  have hb := levelF_in p
  refine aws_loopF [3, 4, 6, 7, 8, 9, 10, 11] [] (fun (x : Int × Int) => [(3, .p (.i x.1)), (4, .p (.i x.2))]) (fun _ => []) (fun x => levelF p = x.1 + 1 + levelF x.2 ∧ -1 ≤ x.1) (fun x => (x.2 + 1).toNat) (-1, p) ⟨by simp, by simp⟩ (by exact knA) (by exact knA) ?_
  rintro ⟨n, q⟩ β γ ⟨h1, h2⟩
  simp only at h1 h2
  have hq1 := levelF_in q
  dsimp only
  rcases plc_cases q with ⟨h0, h3, _⟩ | ⟨h0, h3, _⟩
  · have := levelF_up h0
    repeat' (first | refine rnA ?_ | refine rnS ?_ | refine rnG ?_ | refine rnU ?_ | ((fail_if_success (refine rnKn ?_)); refine rnP ?_ ?_ <;> (intro hq; try (have hq' := hq; simp only [hqs] at hq'))) | refine rkA ?_ | refine rkS ?_ | refine rkF ?_ | refine rkU ?_ | ((fail_if_success (refine rkKn ?_)); refine rkP ?_ ?_ <;> (intro hq; try (have hq' := hq; simp only [hqs] at hq'))) | refine stp ?_ | refine aws_draws [] mixed (by kernel_rfl) ?_ | refine ifT ?_ | refine ifF ?_ | (refine ifQ ?_ ?_ <;> (try (intro hn))) | (refine ifB ?_ ?_ <;> (intro hq; try (have hq' := hq; simp only [hqs] at hq'))))
    exact ⟨(n + 1, upF q), upF_lt h0, ⟨by dsimp only; omega, by dsimp only; omega⟩, by exact frA⟩
  · have := levelF_out h0
    repeat' (first | refine rnA ?_ | refine rnS ?_ | refine rnG ?_ | refine rnU ?_ | ((fail_if_success (refine rnKn ?_)); refine rnP ?_ ?_ <;> (intro hq; try (have hq' := hq; simp only [hqs] at hq'))) | refine rkA ?_ | refine rkS ?_ | refine rkF ?_ | refine rkU ?_ | ((fail_if_success (refine rkKn ?_)); refine rkP ?_ ?_ <;> (intro hq; try (have hq' := hq; simp only [hqs] at hq'))) | refine stp ?_ | refine aws_draws [] mixed (by kernel_rfl) ?_ | refine ifT ?_ | refine ifF ?_ | (refine ifQ ?_ ?_ <;> (try (intro hn))) | (refine ifB ?_ ?_ <;> (intro hq; try (have hq' := hq; simp only [hqs] at hq'))))
    refine rt1 rfl rfl finS_p (ri ?_); omega
end Go.Proofs.YtclcfjejpogdlaaGreat.Tr
