/- edits: ops, the next dot, vectors with a dot, and which cover each other; sets of dots -/
import Derived.Test.YtebjmleheiefdaaGreatCj1
namespace Go.Proofs.YtebjmleheiefdaaGreat.Ca
open Go Go.RowKit Go.Aw Go.Aw.Cart Go.Aw.Ord Go.Sort
set_option linter.unusedVariables false
set_option linter.unusedSimpArgs false
set_option maxRecDepth 8000
set_option maxHeartbeats 4000000
namespace E1
theorem lopC {C : Ctx} {o : Oper} {σ : St} {e : Eff} {ro : Nat → Bool} (h : LOp C o σ e ro := by
    first
      | (apply gField; (focus rfl); first | exact lop_fieldAddr_p rfl rfl (by decide) rfl rfl | exact lop_fieldAddr_bx rfl rfl (by decide) rfl rfl)
            | (apply lop_bsa; (focus rfl); (focus exact inferInstance); (focus exact inferInstance); (focus exact inferInstance); (focus repeat' (first | exact All2.nil | (apply bs_cons; (focus rfl); (focus rfl); (focus rfl)))); (focus rfl); (focus decide); (focus first | decide | omega); (focus rfl); (focus rfl))
            | (apply lop_mfa1; (focus rfl); (focus rfl); (focus rfl); (focus rfl); (focus rfl); (focus rfl))
            | (apply lop_mfa2; (focus rfl); (focus rfl); (focus rfl); (focus rfl); (focus rfl); (focus rfl); (focus rfl); (focus rfl); (focus rfl); (focus decide); (focus rfl))
            | (apply lop_mfa3; (focus rfl); (focus rfl); (focus rfl); (focus rfl); (focus rfl); (focus rfl); (focus rfl); (focus rfl); (focus rfl); (focus rfl); (focus rfl); (focus rfl); (focus rfl); (focus decide); (focus decide); (focus decide); (focus rfl))
            | (apply gLoad; (focus rfl); apply lop_ld_bxp; (focus rfl); (focus exact inferInstance); (focus rfl); (focus rfl); (focus rfl); (focus rfl); (focus rfl))
      | exact lopV
      | (apply lop_call2; (focus rfl); (focus exact inferInstance); (focus first | exact lk_v8 (by assumption) rfl | exact lk_v8l rfl); (focus first | exact lk_v8 (by assumption) rfl | exact lk_v8l rfl); (focus exact inferInstance); (focus exact inferInstance); (focus first | exact True.intro | assumption | rfl | omega | ((repeat' (first | assumption | refine And.intro ?_ ?_ | omega | rfl)); done) | fail); (focus rfl))
      | fail) : LOp C o σ e ro := h
section steps
variable {C : Ctx} {ops : Array Oper} {o : Oper} {rest : List Oper} {K : St → Prop} {σ : St} {e : Eff} {ro : Nat → Bool} {W : List (Nat × Nat)} {i : Nat}
theorem rnC {d : Nat} (hk : RunN C ops rest K (e.app (some d) σ)) (hg : Guard ops σ o true := by first | exact gd_n rfl rfl | exact gd_t rfl rfl rfl rfl | exact gd_t rfl rfl rfl (by assumption)) (hd : o.dst = some d := by rfl) (h : LOp C o σ e ro := by exact lopC) : RunN C ops (o :: rest) K σ := rn_any hg hd h hk
theorem rkC {d : Nat} (hk : RunK C ops W (i + 1) rest K (e.app (some d) σ)) (hg : Guard ops σ o true := by first | exact gd_n rfl rfl | exact gd_t rfl rfl rfl rfl | exact gd_t rfl rfl rfl (by assumption)) (hd' : o.dst = some d := by rfl) (hd : dOk C o.dst = true := by rfl) (h : LOp C o σ e ro := by exact lopC)
    (hro : ∀ x, ro x = true → okObj ops W i x = true := by first | exact fun _ => ro_none | exact ro_one rfl | exact ro_one (by kernel_rfl) | exact ro_kIn (by decide)) (hob : ∀ p ∈ e.obj, (i, p.1) ∈ W := by first | exact ob_none | exact ob_one (by decide) | decide) : RunK C ops W i (o :: rest) K σ := rk_wr hg hd' hd h hro hob hk
end steps
end E1
open E1
/-! ops -/
abbrev Op3 := Int × Int × Int
abbrev opL (o : Op3) : List AC := [.p (.i o.1), .p (.i o.2.1), .p (.i o.2.2)]
abbrev opR (o : Op3) : List PVal := [.i o.1, .i o.2.1, .i o.2.2]
abbrev opV (o : Op3) : AV := .a (opL o)
def mayF (o : Op3) : Bool := decide ((o.1 = 4 ∧ o.2.1 = 0 ∧ o.2.2 = 0) ∨ (1 ≤ o.2.1 ∧ o.2.1 ≤ 60 ∧ ((o.1 = 1 ∧ o.2.2 ≠ 0 ∧ -1000 ≤ o.2.2 ∧ o.2.2 ≤ 1000) ∨ (o.1 = 2 ∧ 0 ≤ o.2.2 ∧ o.2.2 ≤ 1000) ∨ (o.1 = 3 ∧ o.2.2 = 0))))
def goneF (o : Op3) (e : Ent) : Bool := decide (o.1 = 4 ∨ (o.1 ≠ 1 ∧ e.1 = o.2.1))
def winF (n a b : Int) : Bool := decide (a ≤ n ∧ n ≤ b)
theorem within_e (n a b : Int) : PCall Tryz.prog 110 [.p (.i n), .p (.i a), .p (.i b)] (.p (.b (winF n a b))) := by
  refine pcall_of Tryz.func110 rfl (fun w0 F S0 M0 => ?_)
  unfold winF
  as_aux_lemma =>
    repeat' (first
        | refine rnJ ?_
        | refine rnSB ?_
        | refine rnG ?_
        | refine rnU ?_
        | ((fail_if_success (refine rnKn ?_)); refine rnP ?_ ?_ <;> (intro hq; try (have hq' := hq; simp only [hqs] at hq')))
        | refine rkJ ?_
        | refine rkSB ?_
        | refine rkF ?_
        | refine rkU ?_
        | ((fail_if_success (refine rkKn ?_)); refine rkP ?_ ?_ <;> (intro hq; try (have hq' := hq; simp only [hqs] at hq')))
        | refine stp ?_
        | refine aws_draws [] mixed (by kernel_rfl) ?_
        | refine ifT ?_
        | refine ifF ?_
        | (refine ifQ ?_ ?_ <;> (try (intro hn)))
        | (refine ifB ?_ ?_ <;> (intro hq; try (have hq' := hq; simp only [hqs] at hq'))))
    all_goals refine rt1 rfl rfl finS_p (rb ?_)
    all_goals first | exact decide_eq_decide.2 (by omega) | exact decide_eq_true (by omega) | exact decide_eq_false (by omega)
instance {n a b : Int} : PC Tryz.prog 110 [.p (.i n), .p (.i a), .p (.i b)] True (.p (.b (winF n a b))) := ⟨fun _ => within_e n a b⟩
theorem vEq3 (a b c d e f : Int) : vEqB [.int .i64 a, .int .i64 b, .int .i64 c] [.int .i64 d, .int .i64 e, .int .i64 f] = decide (a = d ∧ b = e ∧ c = f) := by
  rw [Bool.eq_iff_iff, decide_eq_true_eq]; simp [vEqB, vEq, and_assoc]
theorem may_w (o : Op3) : PCall Tryz.prog 67 [opV o] (.p (.b (mayF o))) := by
  refine pcall_of Tryz.func67 rfl (fun w0 F S0 M0 => ?_)
  by_cases h4 : o.1 = 4
  · have d1 : decide (o.1 = 4) = true := decide_eq_true h4
    have e : mayF o = vEqB [.int .i64 o.1, .int .i64 o.2.1, .int .i64 o.2.2] [.int .i64 4, .int .i64 0, .int .i64 0] := by
      rw [vEq3]; unfold mayF; exact decide_eq_decide.2 (by omega)
    rw [e]
    as_aux_lemma =>
      repeat' (first
          | refine rnC ?_
          | refine rnSB ?_
          | refine rnG ?_
          | refine rnU ?_
          | ((fail_if_success (refine rnKn ?_)); refine rnP ?_ ?_ <;> (intro hq; try (have hq' := hq; simp only [hqs] at hq')))
          | refine rkC ?_
          | refine rkSB ?_
          | refine rkF ?_
          | refine rkU ?_
          | ((fail_if_success (refine rkKn ?_)); refine rkP ?_ ?_ <;> (intro hq; try (have hq' := hq; simp only [hqs] at hq')))
          | refine stp ?_
          | refine aws_draws [] mixed (by kernel_rfl) ?_
          | refine ifT ?_
          | refine ifF ?_
          | (refine ifQ ?_ ?_ <;> (try (intro hn)))
          | (refine ifB ?_ ?_ <;> (intro hq; try (have hq' := hq; simp only [hqs] at hq'))))
      exact rt1 rfl rfl finS_p rfl
  · have d1 : decide (o.1 = 4) = false := decide_eq_false h4
    by_cases hi : 1 ≤ o.2.1 ∧ o.2.1 ≤ 60
    · have d2 : (!winF o.2.1 1 60) = false := by rw [show winF o.2.1 1 60 = true from decide_eq_true hi]; rfl
      by_cases h1 : o.1 = 1
      · have d3 : decide (o.1 = 1) = true := decide_eq_true h1
        by_cases hz : o.2.2 = 0
        · have d4 : decide (o.2.2 ≠ 0) = false := decide_eq_false fun q => q hz
          rw [show mayF o = false from decide_eq_false (by omega)]
          as_aux_lemma =>
            repeat' (first
                | refine rnC ?_
                | refine rnSB ?_
                | refine rnG ?_
                | refine rnU ?_
                | ((fail_if_success (refine rnKn ?_)); refine rnP ?_ ?_ <;> (intro hq; try (have hq' := hq; simp only [hqs] at hq')))
                | refine rkC ?_
                | refine rkSB ?_
                | refine rkF ?_
                | refine rkU ?_
                | ((fail_if_success (refine rkKn ?_)); refine rkP ?_ ?_ <;> (intro hq; try (have hq' := hq; simp only [hqs] at hq')))
                | refine stp ?_
                | refine aws_draws [] mixed (by kernel_rfl) ?_
                | refine ifT ?_
                | refine ifF ?_
                | (refine ifQ ?_ ?_ <;> (try (intro hn)))
                | (refine ifB ?_ ?_ <;> (intro hq; try (have hq' := hq; simp only [hqs] at hq'))))
            exact rt1 rfl rfl finS_p rfl
        · have d4 : decide (o.2.2 ≠ 0) = true := decide_eq_true hz
          rw [show mayF o = winF o.2.2 (-1000) 1000 from decide_eq_decide.2 (by omega)]
          as_aux_lemma =>
            repeat' (first
                | refine rnC ?_
                | refine rnSB ?_
                | refine rnG ?_
                | refine rnU ?_
                | ((fail_if_success (refine rnKn ?_)); refine rnP ?_ ?_ <;> (intro hq; try (have hq' := hq; simp only [hqs] at hq')))
                | refine rkC ?_
                | refine rkSB ?_
                | refine rkF ?_
                | refine rkU ?_
                | ((fail_if_success (refine rkKn ?_)); refine rkP ?_ ?_ <;> (intro hq; try (have hq' := hq; simp only [hqs] at hq')))
                | refine stp ?_
                | refine aws_draws [] mixed (by kernel_rfl) ?_
                | refine ifT ?_
                | refine ifF ?_
                | (refine ifQ ?_ ?_ <;> (try (intro hn)))
                | (refine ifB ?_ ?_ <;> (intro hq; try (have hq' := hq; simp only [hqs] at hq'))))
            exact rt1 rfl rfl finS_p rfl
      · have d3 : decide (o.1 = 1) = false := decide_eq_false h1
        by_cases h2 : o.1 = 2
        · have d4 : decide (o.1 = 2) = true := decide_eq_true h2
          rw [show mayF o = winF o.2.2 0 1000 from decide_eq_decide.2 (by omega)]
          as_aux_lemma =>
            repeat' (first
                | refine rnC ?_
                | refine rnSB ?_
                | refine rnG ?_
                | refine rnU ?_
                | ((fail_if_success (refine rnKn ?_)); refine rnP ?_ ?_ <;> (intro hq; try (have hq' := hq; simp only [hqs] at hq')))
                | refine rkC ?_
                | refine rkSB ?_
                | refine rkF ?_
                | refine rkU ?_
                | ((fail_if_success (refine rkKn ?_)); refine rkP ?_ ?_ <;> (intro hq; try (have hq' := hq; simp only [hqs] at hq')))
                | refine stp ?_
                | refine aws_draws [] mixed (by kernel_rfl) ?_
                | refine ifT ?_
                | refine ifF ?_
                | (refine ifQ ?_ ?_ <;> (try (intro hn)))
                | (refine ifB ?_ ?_ <;> (intro hq; try (have hq' := hq; simp only [hqs] at hq'))))
            exact rt1 rfl rfl finS_p rfl
        · have d4 : decide (o.1 = 2) = false := decide_eq_false h2
          by_cases h3 : o.1 = 3
          · have d5 : decide (o.1 = 3) = true := decide_eq_true h3
            rw [show mayF o = decide (o.2.2 = 0) from decide_eq_decide.2 (by omega)]
            as_aux_lemma =>
              repeat' (first
                  | refine rnC ?_
                  | refine rnSB ?_
                  | refine rnG ?_
                  | refine rnU ?_
                  | ((fail_if_success (refine rnKn ?_)); refine rnP ?_ ?_ <;> (intro hq; try (have hq' := hq; simp only [hqs] at hq')))
                  | refine rkC ?_
                  | refine rkSB ?_
                  | refine rkF ?_
                  | refine rkU ?_
                  | ((fail_if_success (refine rkKn ?_)); refine rkP ?_ ?_ <;> (intro hq; try (have hq' := hq; simp only [hqs] at hq')))
                  | refine stp ?_
                  | refine aws_draws [] mixed (by kernel_rfl) ?_
                  | refine ifT ?_
                  | refine ifF ?_
                  | (refine ifQ ?_ ?_ <;> (try (intro hn)))
                  | (refine ifB ?_ ?_ <;> (intro hq; try (have hq' := hq; simp only [hqs] at hq'))))
              exact rt1 rfl rfl finS_p rfl
          · have d5 : decide (o.1 = 3) = false := decide_eq_false h3
            rw [show mayF o = false from decide_eq_false (by omega)]
            as_aux_lemma =>
              repeat' (first
                  | refine rnC ?_
                  | refine rnSB ?_
                  | refine rnG ?_
                  | refine rnU ?_
                  | ((fail_if_success (refine rnKn ?_)); refine rnP ?_ ?_ <;> (intro hq; try (have hq' := hq; simp only [hqs] at hq')))
                  | refine rkC ?_
                  | refine rkSB ?_
                  | refine rkF ?_
                  | refine rkU ?_
                  | ((fail_if_success (refine rkKn ?_)); refine rkP ?_ ?_ <;> (intro hq; try (have hq' := hq; simp only [hqs] at hq')))
                  | refine stp ?_
                  | refine aws_draws [] mixed (by kernel_rfl) ?_
                  | refine ifT ?_
                  | refine ifF ?_
                  | (refine ifQ ?_ ?_ <;> (try (intro hn)))
                  | (refine ifB ?_ ?_ <;> (intro hq; try (have hq' := hq; simp only [hqs] at hq'))))
              exact rt1 rfl rfl finS_p rfl
    · have d2 : (!winF o.2.1 1 60) = true := by rw [show winF o.2.1 1 60 = false from decide_eq_false hi]; rfl
      rw [show mayF o = false from decide_eq_false (by omega)]
      as_aux_lemma =>
        repeat' (first
            | refine rnC ?_
            | refine rnSB ?_
            | refine rnG ?_
            | refine rnU ?_
            | ((fail_if_success (refine rnKn ?_)); refine rnP ?_ ?_ <;> (intro hq; try (have hq' := hq; simp only [hqs] at hq')))
            | refine rkC ?_
            | refine rkSB ?_
            | refine rkF ?_
            | refine rkU ?_
            | ((fail_if_success (refine rkKn ?_)); refine rkP ?_ ?_ <;> (intro hq; try (have hq' := hq; simp only [hqs] at hq')))
            | refine stp ?_
            | refine aws_draws [] mixed (by kernel_rfl) ?_
            | refine ifT ?_
            | refine ifF ?_
            | (refine ifQ ?_ ?_ <;> (try (intro hn)))
            | (refine ifB ?_ ?_ <;> (intro hq; try (have hq' := hq; simp only [hqs] at hq'))))
        exact rt1 rfl rfl finS_p rfl
instance {o : Op3} : PC Tryz.prog 67 [opV o] True (.p (.b (mayF o))) := ⟨fun _ => may_w o⟩
theorem gone_w (o : Op3) (e : Ent) : PCall Tryz.prog 108 [opV o, eV e] (.p (.b (goneF o e))) := by
  refine pcall_of Tryz.func108 rfl (fun w0 F S0 M0 => ?_)
  unfold goneF
  by_cases h4 : o.1 = 4
  · have d1 : decide (o.1 = 4) = true := decide_eq_true h4
    rw [decide_eq_true (.inl h4)]
    as_aux_lemma =>
      repeat' (first
          | refine rnC ?_
          | refine rnSB ?_
          | refine rnG ?_
          | refine rnU ?_
          | ((fail_if_success (refine rnKn ?_)); refine rnP ?_ ?_ <;> (intro hq; try (have hq' := hq; simp only [hqs] at hq')))
          | refine rkC ?_
          | refine rkSB ?_
          | refine rkF ?_
          | refine rkU ?_
          | ((fail_if_success (refine rkKn ?_)); refine rkP ?_ ?_ <;> (intro hq; try (have hq' := hq; simp only [hqs] at hq')))
          | refine stp ?_
          | refine aws_draws [] mixed (by kernel_rfl) ?_
          | refine ifT ?_
          | refine ifF ?_
          | (refine ifQ ?_ ?_ <;> (try (intro hn)))
          | (refine ifB ?_ ?_ <;> (intro hq; try (have hq' := hq; simp only [hqs] at hq'))))
      exact rt1 rfl rfl finS_p rfl
  · have d1 : decide (o.1 = 4) = false := decide_eq_false h4
    by_cases h1 : o.1 = 1
    · have d2 : decide (o.1 ≠ 1) = false := decide_eq_false fun q => q h1
      rw [decide_eq_false (by omega)]
      as_aux_lemma =>
        repeat' (first
            | refine rnC ?_
            | refine rnSB ?_
            | refine rnG ?_
            | refine rnU ?_
            | ((fail_if_success (refine rnKn ?_)); refine rnP ?_ ?_ <;> (intro hq; try (have hq' := hq; simp only [hqs] at hq')))
            | refine rkC ?_
            | refine rkSB ?_
            | refine rkF ?_
            | refine rkU ?_
            | ((fail_if_success (refine rkKn ?_)); refine rkP ?_ ?_ <;> (intro hq; try (have hq' := hq; simp only [hqs] at hq')))
            | refine stp ?_
            | refine aws_draws [] mixed (by kernel_rfl) ?_
            | refine ifT ?_
            | refine ifF ?_
            | (refine ifQ ?_ ?_ <;> (try (intro hn)))
            | (refine ifB ?_ ?_ <;> (intro hq; try (have hq' := hq; simp only [hqs] at hq'))))
        exact rt1 rfl rfl finS_p rfl
    · have d2 : decide (o.1 ≠ 1) = true := decide_eq_true h1
      rw [decide_eq_decide.2 (show (o.1 = 4 ∨ (o.1 ≠ 1 ∧ e.1 = o.2.1)) ↔ e.1 = o.2.1 by omega)]
      as_aux_lemma =>
        repeat' (first
            | refine rnC ?_
            | refine rnSB ?_
            | refine rnG ?_
            | refine rnU ?_
            | ((fail_if_success (refine rnKn ?_)); refine rnP ?_ ?_ <;> (intro hq; try (have hq' := hq; simp only [hqs] at hq')))
            | refine rkC ?_
            | refine rkSB ?_
            | refine rkF ?_
            | refine rkU ?_
            | ((fail_if_success (refine rkKn ?_)); refine rkP ?_ ?_ <;> (intro hq; try (have hq' := hq; simp only [hqs] at hq')))
            | refine stp ?_
            | refine aws_draws [] mixed (by kernel_rfl) ?_
            | refine ifT ?_
            | refine ifF ?_
            | (refine ifQ ?_ ?_ <;> (try (intro hn)))
            | (refine ifB ?_ ?_ <;> (intro hq; try (have hq' := hq; simp only [hqs] at hq'))))
        exact rt1 rfl rfl finS_p rfl
instance {o : Op3} {e : Ent} : PC Tryz.prog 108 [opV o, eV e] True (.p (.b (goneF o e))) := ⟨fun _ => gone_w o e⟩
theorem split1_w (e : Ent) (o : Op3) : PCall Tryz.prog 107 [eV e, .p (.bx (opR o) 0)] (.p (.b (goneF o e))) := by
  refine pcall_of Tryz.func107 rfl (fun w0 F S0 M0 => ?_)
  as_aux_lemma =>
    repeat' (first
        | refine rnC ?_
        | refine rnSB ?_
        | refine rnG ?_
        | refine rnU ?_
        | ((fail_if_success (refine rnKn ?_)); refine rnP ?_ ?_ <;> (intro hq; try (have hq' := hq; simp only [hqs] at hq')))
        | refine rkC ?_
        | refine rkSB ?_
        | refine rkF ?_
        | refine rkU ?_
        | ((fail_if_success (refine rkKn ?_)); refine rkP ?_ ?_ <;> (intro hq; try (have hq' := hq; simp only [hqs] at hq')))
        | refine stp ?_
        | refine aws_draws [] mixed (by kernel_rfl) ?_
        | refine ifT ?_
        | refine ifF ?_
        | (refine ifQ ?_ ?_ <;> (try (intro hn)))
        | (refine ifB ?_ ?_ <;> (intro hq; try (have hq' := hq; simp only [hqs] at hq'))))
    exact rt1 rfl rfl finS_p rfl
instance {o : Op3} : FP Tryz.prog 107 [.bx (opR o) 0] True (fun e => goneF o e) := ⟨fun _ e => split1_w e o⟩
theorem split2_w (e : Ent) (o : Op3) : PCall Tryz.prog 109 [eV e, .p (.bx (opR o) 0)] (.p (.b (!goneF o e))) := by
  refine pcall_of Tryz.func109 rfl (fun w0 F S0 M0 => ?_)
  as_aux_lemma =>
    repeat' (first
        | refine rnC ?_
        | refine rnSB ?_
        | refine rnG ?_
        | refine rnU ?_
        | ((fail_if_success (refine rnKn ?_)); refine rnP ?_ ?_ <;> (intro hq; try (have hq' := hq; simp only [hqs] at hq')))
        | refine rkC ?_
        | refine rkSB ?_
        | refine rkF ?_
        | refine rkU ?_
        | ((fail_if_success (refine rkKn ?_)); refine rkP ?_ ?_ <;> (intro hq; try (have hq' := hq; simp only [hqs] at hq')))
        | refine stp ?_
        | refine aws_draws [] mixed (by kernel_rfl) ?_
        | refine ifT ?_
        | refine ifF ?_
        | (refine ifQ ?_ ?_ <;> (try (intro hn)))
        | (refine ifB ?_ ?_ <;> (intro hq; try (have hq' := hq; simp only [hqs] at hq'))))
    exact rt1 rfl rfl finS_p rfl
instance {o : Op3} : FP Tryz.prog 109 [.bx (opR o) 0] True (fun e => !goneF o e) := ⟨fun _ e => split2_w e o⟩
/-! vectors -/
def nextF (v : List Int) (n : Int) : Dot × Int := if nodeF n = false then ((0, 0), 11) else if getF v n = 18446744073709551615 then ((0, 0), 13) else ((n, getF v n + 1), 0)
theorem getF_in {v : List Int} (h : ∀ n ∈ v, 0 ≤ n ∧ n < 18446744073709551616) (n : Int) : 0 ≤ getF v n ∧ getF v n < 18446744073709551616 := by
  unfold getF
  split
  · by_cases hi : (n - 1).toNat < v.length
    · rw [getD_at hi]; exact h _ (List.getElem_mem _)
    · rw [List.getD_eq_getElem?_getD, List.getElem?_eq_none (by omega)]
      exact ⟨Int.le_refl _, by decide⟩
  · omega
theorem next_w (v : List Int) (n : Int) (hv : v.length = 8) (hb : ∀ n ∈ v, 0 ≤ n ∧ n < 18446744073709551616) : PCall Tryz.prog 65 [vV v, .p (.i n)] (.tup [.agg (dL (nextF v n).1), .one (.p (.i (nextF v n).2))]) := by
  refine pcall_of Tryz.func65 rfl (fun w0 F S0 M0 => ?_)
  obtain ⟨g1, g2⟩ := getF_in hb n
  cases hn : nodeF n with
  | false =>
    have d1 : (!nodeF n) = true := by rw [hn]; rfl
    rw [show nextF v n = ((0, 0), 11) by unfold nextF; rw [if_pos hn]]
    as_aux_lemma =>
      repeat' (first
          | refine rnC ?_
          | refine rnSB ?_
          | refine rnG ?_
          | refine rnU ?_
          | ((fail_if_success (refine rnKn ?_)); refine rnP ?_ ?_ <;> (intro hq; try (have hq' := hq; simp only [hqs] at hq')))
          | refine rkC ?_
          | refine rkSB ?_
          | refine rkF ?_
          | refine rkU ?_
          | ((fail_if_success (refine rkKn ?_)); refine rkP ?_ ?_ <;> (intro hq; try (have hq' := hq; simp only [hqs] at hq')))
          | refine stp ?_
          | refine aws_draws [] mixed (by kernel_rfl) ?_
          | refine ifT ?_
          | refine ifF ?_
          | (refine ifQ ?_ ?_ <;> (try (intro hn)))
          | (refine ifB ?_ ?_ <;> (intro hq; try (have hq' := hq; simp only [hqs] at hq'))))
      exact rc2 rfl rfl rfl rfl rfl rfl finL_p rfl finS_p rfl
  | true =>
    have d1 : (!nodeF n) = false := by rw [hn]; rfl
    by_cases hm : getF v n = 18446744073709551615
    · have d2 : decide (getF v n = 18446744073709551615) = true := decide_eq_true hm
      rw [show nextF v n = ((0, 0), 13) by unfold nextF; rw [if_neg (by rw [hn]; simp), if_pos hm]]
      as_aux_lemma =>
        repeat' (first
            | refine rnC ?_
            | refine rnSB ?_
            | refine rnG ?_
            | refine rnU ?_
            | ((fail_if_success (refine rnKn ?_)); refine rnP ?_ ?_ <;> (intro hq; try (have hq' := hq; simp only [hqs] at hq')))
            | refine rkC ?_
            | refine rkSB ?_
            | refine rkF ?_
            | refine rkU ?_
            | ((fail_if_success (refine rkKn ?_)); refine rkP ?_ ?_ <;> (intro hq; try (have hq' := hq; simp only [hqs] at hq')))
            | refine stp ?_
            | refine aws_draws [] mixed (by kernel_rfl) ?_
            | refine ifT ?_
            | refine ifF ?_
            | (refine ifQ ?_ ?_ <;> (try (intro hn)))
            | (refine ifB ?_ ?_ <;> (intro hq; try (have hq' := hq; simp only [hqs] at hq'))))
        exact rc2 rfl rfl rfl rfl rfl rfl finL_p rfl finS_p rfl
    · have d2 : decide (getF v n = 18446744073709551615) = false := decide_eq_false hm
      rw [show nextF v n = ((n, getF v n + 1), 0) by unfold nextF; rw [if_neg (by rw [hn]; simp), if_neg hm]]
      as_aux_lemma =>
        repeat' (first
            | refine rnC ?_
            | refine rnSB ?_
            | refine rnG ?_
            | refine rnU ?_
            | ((fail_if_success (refine rnKn ?_)); refine rnP ?_ ?_ <;> (intro hq; try (have hq' := hq; simp only [hqs] at hq')))
            | refine rkC ?_
            | refine rkSB ?_
            | refine rkF ?_
            | refine rkU ?_
            | ((fail_if_success (refine rkKn ?_)); refine rkP ?_ ?_ <;> (intro hq; try (have hq' := hq; simp only [hqs] at hq')))
            | refine stp ?_
            | refine aws_draws [] mixed (by kernel_rfl) ?_
            | refine ifT ?_
            | refine ifF ?_
            | (refine ifQ ?_ ?_ <;> (try (intro hn)))
            | (refine ifB ?_ ?_ <;> (intro hq; try (have hq' := hq; simp only [hqs] at hq'))))
        exact rc2 rfl rfl rfl rfl rfl rfl finL_p rfl finS_p rfl
def withF (v : List Int) (d : Dot) : List Int := if nodeF d.1 = true then v.set (d.1 - 1).toNat (if v.getD (d.1 - 1).toNat default < d.2 then d.2 else v.getD (d.1 - 1).toNat default) else v
theorem withF_len {v : List Int} {d : Dot} : (withF v d).length = v.length := by
  unfold withF; split
  · rw [List.length_set]
  · rfl
theorem with_w (v : List Int) (d : Dot) (hv : v.length = 8) : PCall Tryz.prog 68 [vV v, dV d] (.a (v8L (withF v d))) := by
  refine pcall_of Tryz.func68 rfl (fun w0 F S0 M0 => ?_)
  rw [← v8L_is (by rw [withF_len]; exact hv)]
  unfold withF
  cases hn : nodeF d.1 with
  | false =>
    rw [if_neg (by simp)]
    as_aux_lemma =>
      repeat' (first
          | refine rnC ?_
          | refine rnSB ?_
          | refine rnG ?_
          | refine rnU ?_
          | ((fail_if_success (refine rnKn ?_)); refine rnP ?_ ?_ <;> (intro hq; try (have hq' := hq; simp only [hqs] at hq')))
          | refine rkC ?_
          | refine rkSB ?_
          | refine rkF ?_
          | refine rkU ?_
          | ((fail_if_success (refine rkKn ?_)); refine rkP ?_ ?_ <;> (intro hq; try (have hq' := hq; simp only [hqs] at hq')))
          | refine stp ?_
          | refine aws_draws [] mixed (by kernel_rfl) ?_
          | refine ifT ?_
          | refine ifF ?_
          | (refine ifQ ?_ ?_ <;> (try (intro hn)))
          | (refine ifB ?_ ?_ <;> (intro hq; try (have hq' := hq; simp only [hqs] at hq'))))
      exact rc1 rfl rfl rfl rfl rfl (by rw [List.length_map]; exact hv) finL_p rfl
  | true =>
    have hd := of_decide_eq_true hn
    rw [if_pos rfl]
    repeat' (first
        | refine rnC ?_
        | refine rnSB ?_
        | refine rnG ?_
        | refine rnU ?_
        | ((fail_if_success (refine rnKn ?_)); refine rnP ?_ ?_ <;> (intro hq; try (have hq' := hq; simp only [hqs] at hq')))
        | refine rkC ?_
        | refine rkSB ?_
        | refine rkF ?_
        | refine rkU ?_
        | ((fail_if_success (refine rkKn ?_)); refine rkP ?_ ?_ <;> (intro hq; try (have hq' := hq; simp only [hqs] at hq')))
        | refine stp ?_
        | refine ifT ?_
        | refine ifF ?_
        | (refine ifQ ?_ ?_ <;> (try (intro hn)))
        | (refine ifB ?_ ?_ <;> (intro hq; try (have hq' := hq; simp only [hqs] at hq'))))
    refine aws_draws [(12, 2)] mixed (by kernel_rfl) ?_
    repeat' (first
        | refine rk_nil ?_
        | refine rkC ?_
        | refine rkSB ?_
        | refine rkF ?_
        | refine rkU ?_
        | ((fail_if_success (refine rkKn ?_)); refine rkP ?_ ?_ <;> (intro hq; try (have hq' := hq; simp only [hqs] at hq'))))
    as_aux_lemma =>
      repeat' (first
          | refine rnC ?_
          | refine rnSB ?_
          | refine rnG ?_
          | refine rnU ?_
          | ((fail_if_success (refine rnKn ?_)); refine rnP ?_ ?_ <;> (intro hq; try (have hq' := hq; simp only [hqs] at hq')))
          | refine rkC ?_
          | refine rkSB ?_
          | refine rkF ?_
          | refine rkU ?_
          | ((fail_if_success (refine rkKn ?_)); refine rkP ?_ ?_ <;> (intro hq; try (have hq' := hq; simp only [hqs] at hq')))
          | refine stp ?_
          | refine aws_draws [] mixed (by kernel_rfl) ?_
          | refine ifT ?_
          | refine ifF ?_
          | (refine ifQ ?_ ?_ <;> (try (intro hn)))
          | (refine ifB ?_ ?_ <;> (intro hq; try (have hq' := hq; simp only [hqs] at hq'))))
      exact rc1 rfl rfl rfl rfl rfl (by rw [List.length_map, List.length_set]; exact hv) finL_p rfl
instance {v : List Int} {d : Dot} : PC Tryz.prog 68 [vV v, dV d] (v.length = 8) (.a (v8L (withF v d))) := ⟨with_w v d⟩
def mnTo (a w : List Int) : Nat → List Int
  | 0 => a
  | j + 1 => (mnTo a w j).set j (if w.getD j default < (mnTo a w j).getD j default then w.getD j default else (mnTo a w j).getD j default)
theorem mnTo_len {a w : List Int} : ∀ j, (mnTo a w j).length = a.length
  | 0 => rfl
  | j + 1 => by rw [mnTo, List.length_set, mnTo_len j]
theorem mnTo_get {a w : List Int} : ∀ j k, j ≤ a.length → (mnTo a w j).getD k default = if k < j then (if w.getD k default < a.getD k default then w.getD k default else a.getD k default) else a.getD k default
  | 0, k, _ => by rw [if_neg (Nat.not_lt_zero _)]; rfl
  | j + 1, k, h => by
    have hj := mnTo_get j j (by omega) (a := a) (w := w)
    rw [if_neg (Nat.lt_irrefl _)] at hj
    have hk := mnTo_get j k (by omega) (a := a) (w := w)
    rw [mnTo, hj, List.getD_eq_getElem?_getD, List.getElem?_set, mnTo_len]
    by_cases e : j = k
    · subst e
      rw [if_pos rfl, if_pos (show j < a.length by omega), if_pos (show j < j + 1 by omega)]; rfl
    · rw [if_neg e, ← List.getD_eq_getElem?_getD, hk]
      by_cases h2 : k < j
      · rw [if_pos h2, if_pos (show k < j + 1 by omega)]
      · rw [if_neg h2, if_neg (show ¬ k < j + 1 by omega)]
/-- does a vector cover another one -/
def covF (v w : List Int) : Bool := decide (mnTo v w 8 = w)
theorem covF_iff {v w : List Int} (hv : v.length = 8) (hw : w.length = 8) : covF v w = true ↔ ∀ i, i < 8 → w.getD i default ≤ v.getD i default := by
  unfold covF
  rw [decide_eq_true_eq]
  constructor
  · intro h i hi
    have := mnTo_get (a := v) (w := w) 8 i (by omega)
    rw [h, if_pos hi] at this
    split at this <;> omega
  · intro h
    refine maxV_ext (by rw [mnTo_len, hv]) hw fun i hi => ?_
    rw [mnTo_get 8 i (by omega), if_pos hi]
    have := h i hi
    split <;> omega
/-! sets of dots -/
def drow (l : List Dot) (i : Nat) : Bool := dotF (l.getD i default) && (decide (i = 0) || decide (cmpD (l.getD (i - 1) default) (l.getD i default) < 0))
def drTo (l : List Dot) (k : Nat) : Nat → Bool
  | 0 => true
  | n + 1 => drow l k && drTo l (k + 1) n
def dRightF (l : List Dot) : Bool := drTo l 0 l.length && decide (l.length ≤ 2000)
theorem dRight_w (l : List Dot) (ex : Bool) (h : l.length ≤ 1000000000) : PCall Tryz.prog 119 [.p (.sl 2 (l.map dR) ex)] (.p (.b (dRightF l))) := by
  refine pcall_of Tryz.func119 rfl (fun w0 F S0 M0 => ?_)
  unfold dRightF
  obtain ⟨A, hA⟩ : ∃ A, A = drTo l 0 l.length := ⟨_, rfl⟩
  rw [← hA]
  repeat' (first
      | refine rnC ?_
      | refine rnSB ?_
      | refine rnG ?_
      | refine rnU ?_
      | ((fail_if_success (refine rnKn ?_)); refine rnP ?_ ?_ <;> (intro hq; try (have hq' := hq; simp only [hqs] at hq')))
      | refine rkC ?_
      | refine rkSB ?_
      | refine rkF ?_
      | refine rkU ?_
      | ((fail_if_success (refine rkKn ?_)); refine rkP ?_ ?_ <;> (intro hq; try (have hq' := hq; simp only [hqs] at hq')))
      | refine stp ?_
      | refine aws_draws [] mixed (by kernel_rfl) ?_
      | refine ifT ?_
      | refine ifF ?_
      | (refine ifQ ?_ ?_ <;> (try (intro hn)))
      | (refine ifB ?_ ?_ <;> (intro hq; try (have hq' := hq; simp only [hqs] at hq'))))
  refine aws_loopS [2, 3, 4, 7, 8, 9, 10, 11, 12, 13, 14, 15, 16, 17, 18, 19, 20, 21, 22, 23, 24, 25, 26, 27, 28, 29] [4] (fun (x : Nat × Option MO) => [(7, .p (.i x.1))]) (fun x => [(4, (x.1, x.2))]) (fun x => x.1 ≤ l.length ∧ A = drTo l x.1 (l.length - x.1)) (fun x => l.length - x.1) (0, none) ⟨Nat.zero_le _, hA⟩ (by exact knA) (by exact knA) ?_
  rintro ⟨i, c4⟩ β γ ⟨hi, hx⟩
  simp only at hi hx
  dsimp only
  by_cases hil : i < l.length
  · have hlt : decide ((i : Int) < (l.length : Int)) = true := decide_eq_true (by omega)
    rw [show l.length - i = (l.length - (i + 1)) + 1 by omega, drTo, drow] at hx
    have ei : (i : Int).toNat = i := Int.toNat_natCast i
    cases hh : dotF (l.getD (i : Int).toNat default) with
    | false =>
      have hh' : (!dotF (l.getD (i : Int).toNat default)) = true := by rw [hh]; rfl
      rw [ei] at hh
      rw [hh, Bool.false_and, Bool.false_and] at hx
      rw [hx]
      as_aux_lemma =>
        repeat' (first
            | refine rnC ?_
            | refine rnSB ?_
            | refine rnG ?_
            | refine rnU ?_
            | ((fail_if_success (refine rnKn ?_)); refine rnP ?_ ?_ <;> (intro hq; try (have hq' := hq; simp only [hqs] at hq')))
            | refine rkC ?_
            | refine rkSB ?_
            | refine rkF ?_
            | refine rkU ?_
            | ((fail_if_success (refine rkKn ?_)); refine rkP ?_ ?_ <;> (intro hq; try (have hq' := hq; simp only [hqs] at hq')))
            | refine stp ?_
            | refine aws_draws [] mixed (by kernel_rfl) ?_
            | refine ifT ?_
            | refine ifF ?_
            | (refine ifQ ?_ ?_ <;> (try (intro hn)))
            | (refine ifB ?_ ?_ <;> (intro hq; try (have hq' := hq; simp only [hqs] at hq'))))
        exact rt1 rfl rfl finS_p rfl
    | true =>
      have hh' : (!dotF (l.getD (i : Int).toNat default)) = false := by rw [hh]; rfl
      rw [ei] at hh
      rw [hh, Bool.true_and] at hx
      by_cases h0 : i = 0
      · have d3 : decide (0 < (i : Int)) = false := decide_eq_false (by omega)
        rw [decide_eq_true h0, Bool.true_or, Bool.true_and] at hx
        as_aux_lemma =>
          repeat' (first
              | refine rnC ?_
              | refine rnSB ?_
              | refine rnG ?_
              | refine rnU ?_
              | ((fail_if_success (refine rnKn ?_)); refine rnP ?_ ?_ <;> (intro hq; try (have hq' := hq; simp only [hqs] at hq')))
              | refine rkC ?_
              | refine rkSB ?_
              | refine rkF ?_
              | refine rkU ?_
              | ((fail_if_success (refine rkKn ?_)); refine rkP ?_ ?_ <;> (intro hq; try (have hq' := hq; simp only [hqs] at hq')))
              | refine stp ?_
              | refine aws_draws [] mixed (by kernel_rfl) ?_
              | refine ifT ?_
              | refine ifF ?_
              | (refine ifQ ?_ ?_ <;> (try (intro hn)))
              | (refine ifB ?_ ?_ <;> (intro hq; try (have hq' := hq; simp only [hqs] at hq'))))
          exact ⟨(i + 1, some (.box 74 (dL (l.getD (i : Int).toNat default)))), _, by dsimp only; omega, ⟨by dsimp only; omega, by dsimp only; exact hx⟩, .refl, by exact frA⟩
      · have d3 : decide (0 < (i : Int)) = true := decide_eq_true (by omega)
        have ep : ((i : Int) - 1).toNat = i - 1 := by omega
        rw [decide_eq_false h0, Bool.false_or] at hx
        by_cases ho : cmpD (l.getD ((i : Int) - 1).toNat default) (l.getD (i : Int).toNat default) < 0
        · have d4 : decide (0 ≤ cmpD (l.getD ((i : Int) - 1).toNat default) (l.getD (i : Int).toNat default)) = false := decide_eq_false (by omega)
          rw [ei, ep] at ho
          rw [decide_eq_true ho, Bool.true_and] at hx
          as_aux_lemma =>
            repeat' (first
                | refine rnC ?_
                | refine rnSB ?_
                | refine rnG ?_
                | refine rnU ?_
                | ((fail_if_success (refine rnKn ?_)); refine rnP ?_ ?_ <;> (intro hq; try (have hq' := hq; simp only [hqs] at hq')))
                | refine rkC ?_
                | refine rkSB ?_
                | refine rkF ?_
                | refine rkU ?_
                | ((fail_if_success (refine rkKn ?_)); refine rkP ?_ ?_ <;> (intro hq; try (have hq' := hq; simp only [hqs] at hq')))
                | refine stp ?_
                | refine aws_draws [] mixed (by kernel_rfl) ?_
                | refine ifT ?_
                | refine ifF ?_
                | (refine ifQ ?_ ?_ <;> (try (intro hn)))
                | (refine ifB ?_ ?_ <;> (intro hq; try (have hq' := hq; simp only [hqs] at hq'))))
            exact ⟨(i + 1, some (.box 74 (dL (l.getD (i : Int).toNat default)))), _, by dsimp only; omega, ⟨by dsimp only; omega, by dsimp only; exact hx⟩, .refl, by exact frA⟩
        · have d4 : decide (0 ≤ cmpD (l.getD ((i : Int) - 1).toNat default) (l.getD (i : Int).toNat default)) = true := decide_eq_true (by omega)
          rw [ei, ep] at ho
          rw [decide_eq_false ho, Bool.false_and] at hx
          rw [hx]
          as_aux_lemma =>
            repeat' (first
                | refine rnC ?_
                | refine rnSB ?_
                | refine rnG ?_
                | refine rnU ?_
                | ((fail_if_success (refine rnKn ?_)); refine rnP ?_ ?_ <;> (intro hq; try (have hq' := hq; simp only [hqs] at hq')))
                | refine rkC ?_
                | refine rkSB ?_
                | refine rkF ?_
                | refine rkU ?_
                | ((fail_if_success (refine rkKn ?_)); refine rkP ?_ ?_ <;> (intro hq; try (have hq' := hq; simp only [hqs] at hq')))
                | refine stp ?_
                | refine aws_draws [] mixed (by kernel_rfl) ?_
                | refine ifT ?_
                | refine ifF ?_
                | (refine ifQ ?_ ?_ <;> (try (intro hn)))
                | (refine ifB ?_ ?_ <;> (intro hq; try (have hq' := hq; simp only [hqs] at hq'))))
            exact rt1 rfl rfl finS_p rfl
  · have hlt : decide ((i : Int) < (l.length : Int)) = false := decide_eq_false (by omega)
    rw [show l.length - i = 0 by omega, drTo] at hx
    rw [hx, Bool.true_and]
    as_aux_lemma =>
      repeat' (first
          | refine rnC ?_
          | refine rnSB ?_
          | refine rnG ?_
          | refine rnU ?_
          | ((fail_if_success (refine rnKn ?_)); refine rnP ?_ ?_ <;> (intro hq; try (have hq' := hq; simp only [hqs] at hq')))
          | refine rkC ?_
          | refine rkSB ?_
          | refine rkF ?_
          | refine rkU ?_
          | ((fail_if_success (refine rkKn ?_)); refine rkP ?_ ?_ <;> (intro hq; try (have hq' := hq; simp only [hqs] at hq')))
          | refine stp ?_
          | refine aws_draws [] mixed (by kernel_rfl) ?_
          | refine ifT ?_
          | refine ifF ?_
          | (refine ifQ ?_ ?_ <;> (try (intro hn)))
          | (refine ifB ?_ ?_ <;> (intro hq; try (have hq' := hq; simp only [hqs] at hq'))))
      exact rt1 rfl rfl finS_p (rb (decide_eq_decide.2 (by omega)))
instance {l : List Dot} {ex : Bool} : PC Tryz.prog 119 [.p (.sl 2 (l.map dR) ex)] (l.length ≤ 1000000000) (.p (.b (dRightF l))) := ⟨dRight_w l ex⟩
end Go.Proofs.YtebjmleheiefdaaGreat.Ca
