/- inputs: with just what a kind has; which may be; inputs: ops written and read -/
import Derived.Test.YtclcfjejpogdlaaGreatIB40
namespace Go.Proofs.YtclcfjejpogdlaaGreat.Wi
open Go Go.RowKit Go.Aw Go.Aw.Cart Go.Aw.Tree Go.Proofs.YtclcfjejpogdlaaGreat.Ca Go.Proofs.YtclcfjejpogdlaaGreat.Rg
set_option linter.unusedVariables false
set_option linter.unusedSimpArgs false
set_option maxRecDepth 8000
set_option maxHeartbeats 4000000
open I1
theorem finI {σ : St} {K : Nat → Bool} {p0 p1 p2 p3 p4 p5 p6 : PVal} {M N : List AC} (h : All2 (FinC σ K) M N) : All2 (FinC σ K) (.p p0 :: .p p1 :: .p p2 :: .p p3 :: .p p4 :: .p p5 :: .p p6 :: M) (.p p0 :: .p p1 :: .p p2 :: .p p3 :: .p p4 :: .p p5 :: .p p6 :: N) :=
  .cons .p (.cons .p (.cons .p (.cons .p (.cons .p (.cons .p (.cons .p h))))))
theorem fin_zM {σ : St} {K : Nat → Bool} : All2 (FinC σ K) zMC (mL zeroM) := finM .nil .nil .nil
theorem fin_mL {σ : St} {K : Nat → Bool} (m : Msg) : All2 (FinC σ K) (mL m) (mL m) := finM .p .p .p
theorem iown_g (x : Inp) (M Z : List AC) (hM : M.length = 40) (hF : ∀ (σ : St) (K : Nat → Bool), All2 (FinC σ K) M M) (hZ : ∀ (σ : St) (K : Nat → Bool), All2 (FinC σ K) zMC Z) : PCall Tryz.prog 146 [.a (iC x M)] (.a (iC (ownI x) (if x.kind = 5 then M else Z))) := by
  refine pcall_of Tryz.func146 rfl (fun w0 F S0 M0 => ?_)
  have hz40 := zMC_len
  by_cases q1 : x.kind = 1
  · have d1 : decide (x.kind = 1) = true := decide_eq_true q1
    have e : ownI x = ⟨x.kind, x.id, x.key, x.op, 0, zeroM⟩ := by simp [ownI, q1]
    rw [e, if_neg (by omega)]
    clear e
    repeat' (first | refine rnC ?_ | refine rnSI ?_ | refine rnG ?_ | refine rnU ?_ | ((fail_if_success (refine rnKn ?_)); refine rnP ?_ ?_ <;> (intro hq; try (have hq' := hq; simp only [hqs] at hq'))) | refine rkC ?_ | refine rkSI ?_ | refine rkF ?_ | refine rkU ?_ | ((fail_if_success (refine rkKn ?_)); refine rkP ?_ ?_ <;> (intro hq; try (have hq' := hq; simp only [hqs] at hq'))) | refine stp ?_ | refine ifT ?_ | refine ifF ?_ | (refine ifQ ?_ ?_ <;> (try (intro hn))) | (refine ifB ?_ ?_ <;> (intro hq; try (have hq' := hq; simp only [hqs] at hq'))))
    refine aws_draws [(7, 3), (9, 3), (11, 3)] mixed (by kernel_rfl) ?_
    repeat' (first | refine rk_nil ?_ | refine rkC ?_ | refine rkSI ?_ | refine rkF ?_ | refine rkU ?_ | ((fail_if_success (refine rkKn ?_)); refine rkP ?_ ?_ <;> (intro hq; try (have hq' := hq; simp only [hqs] at hq'))))
    as_aux_lemma =>
      repeat' (first | refine rnC ?_ | refine rnSI ?_ | refine rnG ?_ | refine rnU ?_ | ((fail_if_success (refine rnKn ?_)); refine rnP ?_ ?_ <;> (intro hq; try (have hq' := hq; simp only [hqs] at hq'))) | refine rkC ?_ | refine rkSI ?_ | refine rkF ?_ | refine rkU ?_ | ((fail_if_success (refine rkKn ?_)); refine rkP ?_ ?_ <;> (intro hq; try (have hq' := hq; simp only [hqs] at hq'))) | refine stp ?_ | refine ifT ?_ | refine ifF ?_ | (refine ifQ ?_ ?_ <;> (try (intro hn))) | (refine ifB ?_ ?_ <;> (intro hq; try (have hq' := hq; simp only [hqs] at hq'))))
      exact rc1 rfl rfl rfl rfl rfl (il47 hz40) (finI (hZ _ _)) rfl
  have d1 : decide (x.kind = 1) = false := decide_eq_false q1
  by_cases q2 : x.kind = 2
  · have d2 : decide (x.kind = 2) = true := decide_eq_true q2
    have e : ownI x = ⟨x.kind, x.id, x.key, (0, 0, 0), 0, zeroM⟩ := by simp [ownI, q2]
    rw [e, if_neg (by omega)]
    clear e
    repeat' (first | refine rnC ?_ | refine rnSI ?_ | refine rnG ?_ | refine rnU ?_ | ((fail_if_success (refine rnKn ?_)); refine rnP ?_ ?_ <;> (intro hq; try (have hq' := hq; simp only [hqs] at hq'))) | refine rkC ?_ | refine rkSI ?_ | refine rkF ?_ | refine rkU ?_ | ((fail_if_success (refine rkKn ?_)); refine rkP ?_ ?_ <;> (intro hq; try (have hq' := hq; simp only [hqs] at hq'))) | refine stp ?_ | refine ifT ?_ | refine ifF ?_ | (refine ifQ ?_ ?_ <;> (try (intro hn))) | (refine ifB ?_ ?_ <;> (intro hq; try (have hq' := hq; simp only [hqs] at hq'))))
    refine aws_draws [(5, 3), (7, 3)] mixed (by kernel_rfl) ?_
    repeat' (first | refine rk_nil ?_ | refine rkC ?_ | refine rkSI ?_ | refine rkF ?_ | refine rkU ?_ | ((fail_if_success (refine rkKn ?_)); refine rkP ?_ ?_ <;> (intro hq; try (have hq' := hq; simp only [hqs] at hq'))))
    as_aux_lemma =>
      repeat' (first | refine rnC ?_ | refine rnSI ?_ | refine rnG ?_ | refine rnU ?_ | ((fail_if_success (refine rnKn ?_)); refine rnP ?_ ?_ <;> (intro hq; try (have hq' := hq; simp only [hqs] at hq'))) | refine rkC ?_ | refine rkSI ?_ | refine rkF ?_ | refine rkU ?_ | ((fail_if_success (refine rkKn ?_)); refine rkP ?_ ?_ <;> (intro hq; try (have hq' := hq; simp only [hqs] at hq'))) | refine stp ?_ | refine ifT ?_ | refine ifF ?_ | (refine ifQ ?_ ?_ <;> (try (intro hn))) | (refine ifB ?_ ?_ <;> (intro hq; try (have hq' := hq; simp only [hqs] at hq'))))
      exact rc1 rfl rfl rfl rfl rfl (il47 hz40) (finI (hZ _ _)) rfl
  have d2 : decide (x.kind = 2) = false := decide_eq_false q2
  by_cases q4 : x.kind = 4
  · have d4 : decide (x.kind = 4) = true := decide_eq_true q4
    have e : ownI x = ⟨x.kind, 0, [], (0, 0, 0), x.draw, zeroM⟩ := by simp [ownI, q4]
    rw [e, if_neg (by omega)]
    clear e
    as_aux_lemma =>
      repeat' (first | refine rnC ?_ | refine rnSI ?_ | refine rnG ?_ | refine rnU ?_ | ((fail_if_success (refine rnKn ?_)); refine rnP ?_ ?_ <;> (intro hq; try (have hq' := hq; simp only [hqs] at hq'))) | refine rkC ?_ | refine rkSI ?_ | refine rkF ?_ | refine rkU ?_ | ((fail_if_success (refine rkKn ?_)); refine rkP ?_ ?_ <;> (intro hq; try (have hq' := hq; simp only [hqs] at hq'))) | refine stp ?_ | refine ifT ?_ | refine ifF ?_ | (refine ifQ ?_ ?_ <;> (try (intro hn))) | (refine ifB ?_ ?_ <;> (intro hq; try (have hq' := hq; simp only [hqs] at hq'))))
      exact rc1 rfl rfl rfl rfl rfl (il47 hz40) (finI (hZ _ _)) rfl
  have d4 : decide (x.kind = 4) = false := decide_eq_false q4
  by_cases q5 : x.kind = 5
  · have d5 : decide (x.kind = 5) = true := decide_eq_true q5
    have e : ownI x = ⟨x.kind, 0, [], (0, 0, 0), 0, x.msg⟩ := by simp [ownI, q5]
    rw [e, if_pos q5]
    clear e
    as_aux_lemma =>
      repeat' (first | refine rnC ?_ | refine rnSI ?_ | refine rnG ?_ | refine rnU ?_ | ((fail_if_success (refine rnKn ?_)); refine rnP ?_ ?_ <;> (intro hq; try (have hq' := hq; simp only [hqs] at hq'))) | refine rkC ?_ | refine rkSI ?_ | refine rkF ?_ | refine rkU ?_ | ((fail_if_success (refine rkKn ?_)); refine rkP ?_ ?_ <;> (intro hq; try (have hq' := hq; simp only [hqs] at hq'))) | refine stp ?_ | refine ifT ?_ | refine ifF ?_ | (refine ifQ ?_ ?_ <;> (try (intro hn))) | (refine ifB ?_ ?_ <;> (intro hq; try (have hq' := hq; simp only [hqs] at hq'))))
      exact rc1 rfl rfl rfl rfl rfl (il47 hM) (finI (hF _ _)) rfl
  have d5 : decide (x.kind = 5) = false := decide_eq_false q5
  have e : ownI x = ⟨x.kind, 0, [], (0, 0, 0), 0, zeroM⟩ := by simp [ownI, q1, q2, q4, q5]
  rw [e, if_neg q5]
  clear e
  as_aux_lemma =>
    repeat' (first | refine rnC ?_ | refine rnSI ?_ | refine rnG ?_ | refine rnU ?_ | ((fail_if_success (refine rnKn ?_)); refine rnP ?_ ?_ <;> (intro hq; try (have hq' := hq; simp only [hqs] at hq'))) | refine rkC ?_ | refine rkSI ?_ | refine rkF ?_ | refine rkU ?_ | ((fail_if_success (refine rkKn ?_)); refine rkP ?_ ?_ <;> (intro hq; try (have hq' := hq; simp only [hqs] at hq'))) | refine stp ?_ | refine ifT ?_ | refine ifF ?_ | (refine ifQ ?_ ?_ <;> (try (intro hn))) | (refine ifB ?_ ?_ <;> (intro hq; try (have hq' := hq; simp only [hqs] at hq'))))
    exact rc1 rfl rfl rfl rfl rfl (il47 hz40) (finI (hZ _ _)) rfl
theorem iown_w (x : Inp) (h : x.msg.dig.length = 32) : PCall Tryz.prog 146 [iV x] (iV (ownI x)) := by
  have := iown_g x (mL x.msg) (mL zeroM) (mL_len h) (fun _ _ => fin_mL _) (fun _ _ => fin_zM)
  have e : mL (ownI x).msg = if x.kind = 5 then mL x.msg else mL zeroM := by
    unfold ownI
    dsimp only
    by_cases q : x.kind = 5
    · rw [if_pos q, if_pos q]
    · rw [if_neg q, if_neg q]
  rw [← e] at this
  exact this
theorem iright_g (x y : Inp) (M M' : List AC) [pM : PureL M] [pM' : PureL M'] (hM : M.length = 40) (hM' : M'.length = 40) (R S : Bool) (kx : okB x.key) (kl : x.key.length ≤ 1000000) (c3 : PCall Tryz.prog 29 [.a M] (.p (.b R))) (c4 : PCall Tryz.prog 146 [.a (iC x M)] (.a (iC y M'))) (c5 : PCall Tryz.prog 56 [.a (iC x M), .a (iC y M')] (.p (.b S))) :
    PCall Tryz.prog 53 [.a (iC x M)] (.p (.b ((if x.kind = 1 then cliF x.id x.key && mayF x.op else if x.kind = 2 then cliF x.id x.key else if x.kind = 5 then R else decide (1 ≤ x.kind) && decide (x.kind ≤ 8)) && S))) := by
  refine pcall_of Tryz.func53 rfl (fun w0 F S0 M0 => ?_)
  have c1 := client_g x M hM kx kl
  haveI i3 : PC Tryz.prog 29 [.a M] True (.p (.b R)) := ⟨fun _ => c3⟩
  haveI i4 : PC Tryz.prog 146 [.a (iC x M)] True (.a (iC y M')) := ⟨fun _ => c4⟩
  haveI i5 : PC Tryz.prog 56 [.a (iC x M), .a (iC y M')] True (.p (.b S)) := ⟨fun _ => c5⟩
  generalize cliF x.id x.key = A at c1 ⊢
  haveI i1 : PC Tryz.prog 144 [.a (iC x M)] True (.p (.b A)) := ⟨fun _ => c1⟩
  clear c1 c3 c4 c5
  by_cases q1 : x.kind = 1
  · have d1 : decide (x.kind = 1) = true := decide_eq_true q1
    have e1 : decide (1 ≤ x.kind) = true := decide_eq_true (by omega)
    have e8 : decide (x.kind ≤ 8) = true := decide_eq_true (by omega)
    rw [if_pos q1]
    cases A with
    | false =>
      rw [Bool.false_and, Bool.false_and]
      as_aux_lemma =>
        repeat' (first | refine rnC ?_ | refine rnSI ?_ | refine rnG ?_ | refine rnU ?_ | ((fail_if_success (refine rnKn ?_)); refine rnP ?_ ?_ <;> (intro hq; try (have hq' := hq; simp only [hqs] at hq'))) | refine rkC ?_ | refine rkSI ?_ | refine rkF ?_ | refine rkU ?_ | ((fail_if_success (refine rkKn ?_)); refine rkP ?_ ?_ <;> (intro hq; try (have hq' := hq; simp only [hqs] at hq'))) | refine stp ?_ | refine aws_draws [] mixed (by kernel_rfl) ?_ | refine ifT ?_ | refine ifF ?_ | (refine ifQ ?_ ?_ <;> (try (intro hn))) | (refine ifB ?_ ?_ <;> (intro hq; try (have hq' := hq; simp only [hqs] at hq'))))
        exact rt1 rfl rfl finS_p rfl
    | true =>
      rw [Bool.true_and]
      cases hy : mayF x.op with
      | false =>
        rw [Bool.false_and]
        as_aux_lemma =>
          repeat' (first | refine rnC ?_ | refine rnSI ?_ | refine rnG ?_ | refine rnU ?_ | ((fail_if_success (refine rnKn ?_)); refine rnP ?_ ?_ <;> (intro hq; try (have hq' := hq; simp only [hqs] at hq'))) | refine rkC ?_ | refine rkSI ?_ | refine rkF ?_ | refine rkU ?_ | ((fail_if_success (refine rkKn ?_)); refine rkP ?_ ?_ <;> (intro hq; try (have hq' := hq; simp only [hqs] at hq'))) | refine stp ?_ | refine aws_draws [] mixed (by kernel_rfl) ?_ | refine ifT ?_ | refine ifF ?_ | (refine ifQ ?_ ?_ <;> (try (intro hn))) | (refine ifB ?_ ?_ <;> (intro hq; try (have hq' := hq; simp only [hqs] at hq'))))
          exact rt1 rfl rfl finS_p rfl
      | true =>
        rw [Bool.true_and]
        as_aux_lemma =>
          repeat' (first | refine rnC ?_ | refine rnSI ?_ | refine rnG ?_ | refine rnU ?_ | ((fail_if_success (refine rnKn ?_)); refine rnP ?_ ?_ <;> (intro hq; try (have hq' := hq; simp only [hqs] at hq'))) | refine rkC ?_ | refine rkSI ?_ | refine rkF ?_ | refine rkU ?_ | ((fail_if_success (refine rkKn ?_)); refine rkP ?_ ?_ <;> (intro hq; try (have hq' := hq; simp only [hqs] at hq'))) | refine stp ?_ | refine aws_draws [] mixed (by kernel_rfl) ?_ | refine ifT ?_ | refine ifF ?_ | (refine ifQ ?_ ?_ <;> (try (intro hn))) | (refine ifB ?_ ?_ <;> (intro hq; try (have hq' := hq; simp only [hqs] at hq'))))
          exact rt1 rfl rfl finS_p rfl
  have d1 : decide (x.kind = 1) = false := decide_eq_false q1
  rw [if_neg q1]
  by_cases q2 : x.kind = 2
  · have d2 : decide (x.kind = 2) = true := decide_eq_true q2
    have e1 : decide (1 ≤ x.kind) = true := decide_eq_true (by omega)
    have e8 : decide (x.kind ≤ 8) = true := decide_eq_true (by omega)
    rw [if_pos q2]
    cases A with
    | false =>
      rw [Bool.false_and]
      as_aux_lemma =>
        repeat' (first | refine rnC ?_ | refine rnSI ?_ | refine rnG ?_ | refine rnU ?_ | ((fail_if_success (refine rnKn ?_)); refine rnP ?_ ?_ <;> (intro hq; try (have hq' := hq; simp only [hqs] at hq'))) | refine rkC ?_ | refine rkSI ?_ | refine rkF ?_ | refine rkU ?_ | ((fail_if_success (refine rkKn ?_)); refine rkP ?_ ?_ <;> (intro hq; try (have hq' := hq; simp only [hqs] at hq'))) | refine stp ?_ | refine aws_draws [] mixed (by kernel_rfl) ?_ | refine ifT ?_ | refine ifF ?_ | (refine ifQ ?_ ?_ <;> (try (intro hn))) | (refine ifB ?_ ?_ <;> (intro hq; try (have hq' := hq; simp only [hqs] at hq'))))
        exact rt1 rfl rfl finS_p rfl
    | true =>
      rw [Bool.true_and]
      as_aux_lemma =>
        repeat' (first | refine rnC ?_ | refine rnSI ?_ | refine rnG ?_ | refine rnU ?_ | ((fail_if_success (refine rnKn ?_)); refine rnP ?_ ?_ <;> (intro hq; try (have hq' := hq; simp only [hqs] at hq'))) | refine rkC ?_ | refine rkSI ?_ | refine rkF ?_ | refine rkU ?_ | ((fail_if_success (refine rkKn ?_)); refine rkP ?_ ?_ <;> (intro hq; try (have hq' := hq; simp only [hqs] at hq'))) | refine stp ?_ | refine aws_draws [] mixed (by kernel_rfl) ?_ | refine ifT ?_ | refine ifF ?_ | (refine ifQ ?_ ?_ <;> (try (intro hn))) | (refine ifB ?_ ?_ <;> (intro hq; try (have hq' := hq; simp only [hqs] at hq'))))
        exact rt1 rfl rfl finS_p rfl
  have d2 : decide (x.kind = 2) = false := decide_eq_false q2
  rw [if_neg q2]
  by_cases q5 : x.kind = 5
  · have d5 : decide (x.kind = 5) = true := decide_eq_true q5
    have e1 : decide (1 ≤ x.kind) = true := decide_eq_true (by omega)
    have e8 : decide (x.kind ≤ 8) = true := decide_eq_true (by omega)
    rw [if_pos q5]
    cases R with
    | false =>
      rw [Bool.false_and]
      as_aux_lemma =>
        repeat' (first | refine rnC ?_ | refine rnSI ?_ | refine rnG ?_ | refine rnU ?_ | ((fail_if_success (refine rnKn ?_)); refine rnP ?_ ?_ <;> (intro hq; try (have hq' := hq; simp only [hqs] at hq'))) | refine rkC ?_ | refine rkSI ?_ | refine rkF ?_ | refine rkU ?_ | ((fail_if_success (refine rkKn ?_)); refine rkP ?_ ?_ <;> (intro hq; try (have hq' := hq; simp only [hqs] at hq'))) | refine stp ?_ | refine aws_draws [] mixed (by kernel_rfl) ?_ | refine ifT ?_ | refine ifF ?_ | (refine ifQ ?_ ?_ <;> (try (intro hn))) | (refine ifB ?_ ?_ <;> (intro hq; try (have hq' := hq; simp only [hqs] at hq'))))
        exact rt1 rfl rfl finS_p rfl
    | true =>
      rw [Bool.true_and]
      as_aux_lemma =>
        repeat' (first | refine rnC ?_ | refine rnSI ?_ | refine rnG ?_ | refine rnU ?_ | ((fail_if_success (refine rnKn ?_)); refine rnP ?_ ?_ <;> (intro hq; try (have hq' := hq; simp only [hqs] at hq'))) | refine rkC ?_ | refine rkSI ?_ | refine rkF ?_ | refine rkU ?_ | ((fail_if_success (refine rkKn ?_)); refine rkP ?_ ?_ <;> (intro hq; try (have hq' := hq; simp only [hqs] at hq'))) | refine stp ?_ | refine aws_draws [] mixed (by kernel_rfl) ?_ | refine ifT ?_ | refine ifF ?_ | (refine ifQ ?_ ?_ <;> (try (intro hn))) | (refine ifB ?_ ?_ <;> (intro hq; try (have hq' := hq; simp only [hqs] at hq'))))
        exact rt1 rfl rfl finS_p rfl
  have d5 : decide (x.kind = 5) = false := decide_eq_false q5
  rw [if_neg q5]
  cases e1 : decide (1 ≤ x.kind) with
  | false =>
    rw [Bool.false_and, Bool.false_and]
    as_aux_lemma =>
      repeat' (first | refine rnC ?_ | refine rnSI ?_ | refine rnG ?_ | refine rnU ?_ | ((fail_if_success (refine rnKn ?_)); refine rnP ?_ ?_ <;> (intro hq; try (have hq' := hq; simp only [hqs] at hq'))) | refine rkC ?_ | refine rkSI ?_ | refine rkF ?_ | refine rkU ?_ | ((fail_if_success (refine rkKn ?_)); refine rkP ?_ ?_ <;> (intro hq; try (have hq' := hq; simp only [hqs] at hq'))) | refine stp ?_ | refine aws_draws [] mixed (by kernel_rfl) ?_ | refine ifT ?_ | refine ifF ?_ | (refine ifQ ?_ ?_ <;> (try (intro hn))) | (refine ifB ?_ ?_ <;> (intro hq; try (have hq' := hq; simp only [hqs] at hq'))))
      exact rt1 rfl rfl finS_p rfl
  | true =>
    rw [Bool.true_and]
    cases e8 : decide (x.kind ≤ 8) with
    | false =>
      rw [Bool.false_and]
      as_aux_lemma =>
        repeat' (first | refine rnC ?_ | refine rnSI ?_ | refine rnG ?_ | refine rnU ?_ | ((fail_if_success (refine rnKn ?_)); refine rnP ?_ ?_ <;> (intro hq; try (have hq' := hq; simp only [hqs] at hq'))) | refine rkC ?_ | refine rkSI ?_ | refine rkF ?_ | refine rkU ?_ | ((fail_if_success (refine rkKn ?_)); refine rkP ?_ ?_ <;> (intro hq; try (have hq' := hq; simp only [hqs] at hq'))) | refine stp ?_ | refine aws_draws [] mixed (by kernel_rfl) ?_ | refine ifT ?_ | refine ifF ?_ | (refine ifQ ?_ ?_ <;> (try (intro hn))) | (refine ifB ?_ ?_ <;> (intro hq; try (have hq' := hq; simp only [hqs] at hq'))))
        exact rt1 rfl rfl finS_p rfl
    | true =>
      rw [Bool.true_and]
      as_aux_lemma =>
        repeat' (first | refine rnC ?_ | refine rnSI ?_ | refine rnG ?_ | refine rnU ?_ | ((fail_if_success (refine rnKn ?_)); refine rnP ?_ ?_ <;> (intro hq; try (have hq' := hq; simp only [hqs] at hq'))) | refine rkC ?_ | refine rkSI ?_ | refine rkF ?_ | refine rkU ?_ | ((fail_if_success (refine rkKn ?_)); refine rkP ?_ ?_ <;> (intro hq; try (have hq' := hq; simp only [hqs] at hq'))) | refine stp ?_ | refine aws_draws [] mixed (by kernel_rfl) ?_ | refine ifT ?_ | refine ifF ?_ | (refine ifQ ?_ ?_ <;> (try (intro hn))) | (refine ifB ?_ ?_ <;> (intro hq; try (have hq' := hq; simp only [hqs] at hq'))))
        exact rt1 rfl rfl finS_p rfl
theorem ownI_in {x : Inp} (h : MIn x.msg) : MIn (ownI x).msg := by
  unfold ownI
  dsimp only
  split
  · exact h
  · exact zeroM_in
theorem ownI_key {x : Inp} (h : okB x.key) : okB (ownI x).key := by
  unfold ownI
  dsimp only
  split
  · exact h
  · exact fun c hc => by cases hc
theorem iright_w (x : Inp) (h : MIn x.msg) (kx : okB x.key) (kl : x.key.length ≤ 1000000) : PCall Tryz.prog 53 [iV x] (.p (.b (rightI x))) :=
  iright_g x (ownI x) _ _ (mL_len h.d32) (mL_len (ownI_in h).d32) _ _ kx kl (mright_w x.msg h) (iown_w x h.d32) (isame_w x (ownI x) h (ownI_in h) kx (ownI_key kx))
end Go.Proofs.YtclcfjejpogdlaaGreat.Wi
namespace Go.Proofs.YtclcfjejpogdlaaGreat.Wi
open Go Go.RowKit Go.Aw Go.Aw.Cart Go.Aw.Tree Go.Proofs.YtclcfjejpogdlaaGreat.Ca Go.Proofs.YtclcfjejpogdlaaGreat.Rg
set_option linter.unusedVariables false
set_option linter.unusedSimpArgs false
set_option maxRecDepth 8000
set_option maxHeartbeats 4000000
namespace I3
theorem lopC {C : Ctx} {o : Oper} {σ : St} {e : Eff} {ro : Nat → Bool} (h : LOp C o σ e ro := by
    first | (apply lop_max_l; (focus rfl); (focus rfl); (focus rfl); (focus omega); (focus rfl)) | exact I1.lopC | fail) : LOp C o σ e ro := h
section steps
variable {C : Ctx} {ops : Array Oper} {o : Oper} {rest : List Oper} {K : St → Prop} {σ : St} {e : Eff} {ro : Nat → Bool} {W : List (Nat × Nat)} {i : Nat}
theorem rnC {d : Nat} (hk : RunN C ops rest K (e.app (some d) σ)) (hg : Guard ops σ o true := by first | exact gd_n rfl rfl | exact gd_t rfl rfl rfl rfl | exact gd_t rfl rfl rfl (by assumption)) (hd : o.dst = some d := by rfl) (h : LOp C o σ e ro := by exact lopC) : RunN C ops (o :: rest) K σ := rn_any hg hd h hk
end steps
end I3
open I3
theorem eput_o (n : Nat) (bs : List Nat) (o : Op3) (h : mayF o = true) (hl : bs.length ≤ 900000000) : OCall Tryz.prog 133 [.o (.ptr 1000 n 0), opV o] (memL [(1000, (n + 1, some (.abs (wrA bs))))]) (.tup []) (memL [(1000, (n + 1, some (.abs (wrA (bs ++ opB o)))))]) := by
  refine ocall_of1 Tryz.func133 rfl (fun w0 F S0 M0 => ?_)
  obtain ⟨⟨a1, a2⟩, ⟨b1, b2⟩, c1, c2⟩ := may_in h
  have w1 : IntKind.u64.wrap o.1 = o.1 := u64_in (by omega)
  have w2 : IntKind.u64.wrap o.2.1 = o.2.1 := u64_in (by omega)
  have n1 := numI_len o.1
  have n2 := numI_len o.2.1
  have k1 : 0 ≤ o.1 ∧ o.1 < 18446744073709551616 := by omega
  have k2 : 0 ≤ o.2.1 ∧ o.2.1 < 18446744073709551616 := by omega
  have k3 : -9223372036854775808 ≤ o.2.2 ∧ o.2.2 ≤ 9223372036854775807 := by omega
  have g1 : (bs ++ numI o.1).length ≤ 1000000000 := by rw [List.length_append]; omega
  have g2 : (bs ++ numI o.1 ++ numI o.2.1).length ≤ 1000000000 := by rw [List.length_append, List.length_append]; omega
  have g0 : bs.length ≤ 1000000000 := by omega
  rw [show bs ++ opB o = bs ++ numI o.1 ++ numI o.2.1 ++ intB o.2.2 by unfold opB; simp only [List.append_assoc]]
  as_aux_lemma =>
    repeat' (first | refine rnC ?_ | refine rnSB ?_ | refine rnG ?_ | refine rnU ?_ | ((fail_if_success (refine rnKn ?_)); refine rnP ?_ ?_ <;> (intro hq; try (have hq' := hq; simp only [hqs] at hq'))) | refine rkC ?_ | refine rkSB ?_ | refine rkF ?_ | refine rkU ?_ | ((fail_if_success (refine rkKn ?_)); refine rkP ?_ ?_ <;> (intro hq; try (have hq' := hq; simp only [hqs] at hq'))) | refine stp ?_ | refine ifT ?_ | refine ifF ?_ | (refine ifQ ?_ ?_ <;> (try (intro hn))) | (refine ifB ?_ ?_ <;> (intro hq; try (have hq' := hq; simp only [hqs] at hq'))))
    exact RetO.mk (res0 rfl rfl) ⟨.abs, trivial⟩
theorem etake_o (n : Nat) (r : RS) (hr : rdOk r) : OCall Tryz.prog 137 [.o (.ptr 1000 n 0)] (memL [(1000, (n + 1, some (rdM r)))]) (opV (opS r).1) (memL [(1000, (n + 1, some (rdM (opS r).2)))]) := by
  refine ocall_of1 Tryz.func137 rfl (fun w0 F S0 M0 => ?_)
  obtain ⟨a, r1, h1⟩ := pr_ex (smallS 4 r)
  have o1 : rdOk r1 := by have := (par_small 4).rd hr; rwa [h1] at this
  obtain ⟨b, r2, h2⟩ := pr_ex (smallS 60 r1)
  have o2 : rdOk r2 := by have := (par_small 60).rd o1; rwa [h2] at this
  obtain ⟨c, r3, h3⟩ := pr_ex (intS r2)
  have e : opS r = (if (mustS (mayF (a, b, c)) r3).2 = 0 then (a, b, c) else (0, 0, 0), mustS (mayF (a, b, c)) r3) := by
    simp only [opS, bindS, mustU, okS, h1, h2, h3]
  rw [e]
  have cM := may_w (a, b, c)
  generalize mayF (a, b, c) = Y at cM ⊢
  haveI i0 : PC Tryz.prog 145 [.a [.p (.i a), .p (.i b), .p (.i c)]] True (.p (.b Y)) := ⟨fun _ => cM⟩
  haveI : ∀ p g m : Nat, OC Tryz.prog 97 [.o (.ptr p g 0), .p (.i 4)] [(p, (m, some (rdM r)))] [] (m = g + 1) (.p (.i a)) [(p, (m, some (rdM r1)))] := fun p g m => ⟨fun h => by obtain rfl := h; have := (small_o g r 4 (by decide) hr.1 hr.2).one p; rwa [h1] at this⟩
  haveI : ∀ p g m : Nat, OC Tryz.prog 97 [.o (.ptr p g 0), .p (.i 60)] [(p, (m, some (rdM r1)))] [] (m = g + 1) (.p (.i b)) [(p, (m, some (rdM r2)))] := fun p g m => ⟨fun h => by obtain rfl := h; have := (small_o g r1 60 (by decide) o1.1 o1.2).one p; rwa [h2] at this⟩
  haveI : ∀ p g m : Nat, OC Tryz.prog 211 [.o (.ptr p g 0)] [(p, (m, some (rdM r2)))] [] (m = g + 1) (.p (.i c)) [(p, (m, some (rdM r3)))] := fun p g m => ⟨fun h => by obtain rfl := h; have := (rint_o g r2 o2).one p; rwa [h3] at this⟩
  clear e h1 h2 h3 cM
  by_cases hz : (mustS Y r3).2 = 0
  · have d1 : decide ((mustS Y r3).2 ≠ 0) = false := decide_eq_false fun q => q hz
    rw [if_pos hz]
    as_aux_lemma =>
      repeat' (first | refine rnC ?_ | refine rnSB ?_ | refine rnG ?_ | refine rnU ?_ | ((fail_if_success (refine rnKn ?_)); refine rnP ?_ ?_ <;> (intro hq; try (have hq' := hq; simp only [hqs] at hq'))) | refine rkC ?_ | refine rkSB ?_ | refine rkF ?_ | refine rkU ?_ | ((fail_if_success (refine rkKn ?_)); refine rkP ?_ ?_ <;> (intro hq; try (have hq' := hq; simp only [hqs] at hq'))) | refine stp ?_ | refine ifT ?_ | refine ifF ?_ | (refine ifQ ?_ ?_ <;> (try (intro hn))) | (refine ifB ?_ ?_ <;> (intro hq; try (have hq' := hq; simp only [hqs] at hq'))))
      exact RetO.mk (oc1 rfl rfl rfl rfl rfl rfl finL_p rfl) ⟨.box finL_p, trivial⟩
  · have d1 : decide ((mustS Y r3).2 ≠ 0) = true := decide_eq_true hz
    rw [if_neg hz]
    as_aux_lemma =>
      repeat' (first | refine rnC ?_ | refine rnSB ?_ | refine rnG ?_ | refine rnU ?_ | ((fail_if_success (refine rnKn ?_)); refine rnP ?_ ?_ <;> (intro hq; try (have hq' := hq; simp only [hqs] at hq'))) | refine rkC ?_ | refine rkSB ?_ | refine rkF ?_ | refine rkU ?_ | ((fail_if_success (refine rkKn ?_)); refine rkP ?_ ?_ <;> (intro hq; try (have hq' := hq; simp only [hqs] at hq'))) | refine stp ?_ | refine ifT ?_ | refine ifF ?_ | (refine ifQ ?_ ?_ <;> (try (intro hn))) | (refine ifB ?_ ?_ <;> (intro hq; try (have hq' := hq; simp only [hqs] at hq'))))
      exact RetO.mk (oc1 rfl rfl rfl rfl rfl rfl finL_p rfl) ⟨.box finL_p, trivial⟩
end Go.Proofs.YtclcfjejpogdlaaGreat.Wi
