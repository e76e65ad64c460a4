/- trees: children -/
import Derived.Test.YtpamepepibnlfaaTr4
namespace Go.Proofs.Ytpamepepibnlfaa.Tr
open Go Go.RowKit Go.Aw Go.Aw.Sha Go.Aw.Tree Go.Proofs.Ytpamepepibnlfaa.Sh
set_option linter.unusedVariables false
set_option linter.unusedSimpArgs false
set_option maxRecDepth 8000
theorem kids_c (p : Int) : PCall Try.prog 105 [.p (.i p)] (ints (kidsF p) false) := by
  refine pcall_of Try.func105 rfl (fun w0 F S0 M0 => ?_)
  rcases plc_cases p with ⟨h0, h1, h0'⟩ | ⟨h0, h1, h0'⟩
  · by_cases h5 : 5 ≤ p
    · have hd5 : decide (5 ≤ p) = true := decide_eq_true h5
      repeat' (first
          | refine rnA ?_
          | refine rnS ?_
          | refine rnG ?_
          | refine rnU ?_
          | ((fail_if_success (refine rnKn ?_)); refine rnP ?_ ?_ <;> (intro hq; try (have hq' := hq; simp only [hqs] at hq')))
          | refine rkA ?_
          | refine rkS ?_
          | refine rkF ?_
          | refine rkU ?_
          | ((fail_if_success (refine rkKn ?_)); refine rkP ?_ ?_ <;> (intro hq; try (have hq' := hq; simp only [hqs] at hq')))
          | refine stp ?_
          | refine aws_draws [] mixed (by kernel_rfl) ?_
          | refine ifT ?_
          | refine ifF ?_
          | (refine ifQ ?_ ?_ <;> (try (intro hn)))
          | (refine ifB ?_ ?_ <;> (intro hq; try (have hq' := hq; simp only [hqs] at hq'))))
      rw [kidsF_out (by omega)]
      exact rt1 rfl rfl (.one .nil) rfl
    · have hd5 : decide (5 ≤ p) = false := decide_eq_false h5
      repeat' (first
          | refine rnA ?_
          | refine rnS ?_
          | refine rnG ?_
          | refine rnU ?_
          | ((fail_if_success (refine rnKn ?_)); refine rnP ?_ ?_ <;> (intro hq; try (have hq' := hq; simp only [hqs] at hq')))
          | refine rkA ?_
          | refine rkS ?_
          | refine rkF ?_
          | refine rkU ?_
          | ((fail_if_success (refine rkKn ?_)); refine rkP ?_ ?_ <;> (intro hq; try (have hq' := hq; simp only [hqs] at hq')))
          | refine stp ?_
          | refine aws_draws [] mixed (by kernel_rfl) ?_
          | refine ifT ?_
          | refine ifF ?_
          | (refine ifQ ?_ ?_ <;> (try (intro hn)))
          | (refine ifB ?_ ?_ <;> (intro hq; try (have hq' := hq; simp only [hqs] at hq'))))
      refine aws_says (says_nil (t := 3) (o := 900) (ty := 3) (es := 1) rfl rfl (by decide)) ?_
      refine aws_loopF [3, 4, 12, 13, 14, 15, 16, 17, 18, 19, 20, 21, 22, 23] [900] (fun (x : Nat × Nat × List Int) => [(3, .o (.osl 900 x.2.1 1 0 x.2.2.length)), (12, .p (.i x.1))]) (fun x => [(900, (x.2.1 + 1, some (.buf 3 1 (x.2.2.map fun n => [PVal.i n]))))])
        (fun x => x.1 ≤ 4 ∧ x.2.2 = (kidsF p).take x.1) (fun x => 4 - x.1) (0, 0, []) ⟨Nat.zero_le _, rfl⟩ (by exact knA) (by exact knA) ?_
      rintro ⟨i, g, out⟩ β γ ⟨hi, hout⟩
      simp only at hi hout
      have hkl : (kidsF p).length = 4 := by rw [kidsF_in (by omega)]; rfl
      have hol : out.length = i := by rw [hout, List.length_take, hkl]; omega
      dsimp only
      repeat' (first
          | refine rnA ?_
          | refine rnS ?_
          | refine rnG ?_
          | refine rnU ?_
          | ((fail_if_success (refine rnKn ?_)); refine rnP ?_ ?_ <;> (intro hq; try (have hq' := hq; simp only [hqs] at hq')))
          | refine rkA ?_
          | refine rkS ?_
          | refine rkF ?_
          | refine rkU ?_
          | ((fail_if_success (refine rkKn ?_)); refine rkP ?_ ?_ <;> (intro hq; try (have hq' := hq; simp only [hqs] at hq')))
          | refine stp ?_
          | refine aws_draws [] mixed (by kernel_rfl) ?_
          | refine ifT ?_
          | refine ifF ?_
          | (refine ifQ ?_ ?_ <;> (try (intro hn)))
          | (refine ifB ?_ ?_ <;> (intro hq; try (have hq' := hq; simp only [hqs] at hq'))))
      · refine ⟨(i + 1, g + 1, out ++ [4 * p + i + 1]), by dsimp only; omega, ⟨by dsimp only; omega, ?_⟩, by exact frA⟩
        dsimp only
        rw [take_snocD (by omega), ← hout, kidsF_get (by omega) (by omega)]
        congr 2; omega
      · refine rt1 rfl rfl (.one (finC_map rfl rfl rfl rfl)) (rs ?_)
        rw [hout, List.take_of_length_le (by omega)]
  · repeat' (first
    | refine rnA ?_
    | refine rnS ?_
    | refine rnG ?_
    | refine rnU ?_
    | ((fail_if_success (refine rnKn ?_)); refine rnP ?_ ?_ <;> (intro hq; try (have hq' := hq; simp only [hqs] at hq')))
    | refine rkA ?_
    | refine rkS ?_
    | refine rkF ?_
    | refine rkU ?_
    | ((fail_if_success (refine rkKn ?_)); refine rkP ?_ ?_ <;> (intro hq; try (have hq' := hq; simp only [hqs] at hq')))
    | refine stp ?_
    | refine aws_draws [] mixed (by kernel_rfl) ?_
    | refine ifT ?_
    | refine ifF ?_
    | (refine ifQ ?_ ?_ <;> (try (intro hn)))
    | (refine ifB ?_ ?_ <;> (intro hq; try (have hq' := hq; simp only [hqs] at hq'))))
    rw [kidsF_out (by omega)]
    exact rt1 rfl rfl (.one .nil) rfl
instance {p : Int} : PC Try.prog 105 [.p (.i p)] True (ints (kidsF p) false) := ⟨fun _ => kids_c p⟩

theorem rkids_c (p : Int) : PCall Try.prog 92 [.p (.i p)] (ints (kidsF p) true) := by
  refine pcall_of Try.func92 rfl (fun w0 F S0 M0 => ?_)
  repeat' (first
      | refine rnA ?_
      | refine rnS ?_
      | refine rnG ?_
      | refine rnU ?_
      | ((fail_if_success (refine rnKn ?_)); refine rnP ?_ ?_ <;> (intro hq; try (have hq' := hq; simp only [hqs] at hq')))
      | refine rkA ?_
      | refine rkS ?_
      | refine rkF ?_
      | refine rkU ?_
      | ((fail_if_success (refine rkKn ?_)); refine rkP ?_ ?_ <;> (intro hq; try (have hq' := hq; simp only [hqs] at hq')))
      | refine stp ?_
      | refine aws_draws [] mixed (by kernel_rfl) ?_
      | refine ifT ?_
      | refine ifF ?_
      | (refine ifQ ?_ ?_ <;> (try (intro hn)))
      | (refine ifB ?_ ?_ <;> (intro hq; try (have hq' := hq; simp only [hqs] at hq'))))
  · rw [kidsF_out (by first | omega | (simp_all; omega))]
    exact rt1 rfl rfl (.one .nil) rfl
  · rw [kidsF_out (by first | omega | (simp_all; omega))]
    exact rt1 rfl rfl (.one .nil) rfl
  · rw [kidsF_in (by first | omega | (simp_all; omega))]
    exact rt1 rfl rfl finS_p rfl
instance {p : Int} : PC Try.prog 92 [.p (.i p)] True (ints (kidsF p) true) := ⟨fun _ => rkids_c p⟩

end Go.Proofs.Ytpamepepibnlfaa.Tr
