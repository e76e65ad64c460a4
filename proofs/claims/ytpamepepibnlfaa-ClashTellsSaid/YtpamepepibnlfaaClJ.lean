/- clashes, the laws: ClashTells -/
import Derived.Test.YtpamepepibnlfaaClK
import Derived.Test.YtpamepepibnlfaaClG
import Derived.Test.YtpamepepibnlfaaClT
namespace Go.Proofs.Ytpamepepibnlfaa.Clj
open Go Go.RowKit Go.Aw Go.Aw.Sha Go.Aw.Tree Go.Aw.Clash Go.Proofs.Ytpamepepibnlfaa.Sh Go.Proofs.Ytpamepepibnlfaa.Tr Go.Proofs.Ytpamepepibnlfaa.Cl
set_option linter.unusedVariables false
set_option linter.unusedSimpArgs false
set_option maxRecDepth 8000
attribute [local irreducible] sum
set_option maxHeartbeats 4000000
theorem lopC {C : Ctx} {o : Oper} {σ : St} {e : Eff} {ro : Nat → Bool} (h : LOp C o σ e ro := by
    first
      | (apply lop_eqls; (focus rfl); (focus exact inferInstance); (focus rfl); (focus rfl); (focus rfl))
      | exact lopB
      | fail) : LOp C o σ e ro := h
section steps
variable {C : Ctx} {ops : Array Oper} {o : Oper} {rest : List Oper} {K : St → Prop} {σ : St} {e : Eff} {ro : Nat → Bool} {W : List (Nat × Nat)} {i : Nat}
theorem rnC {d : Nat} (hk : RunN C ops rest K (e.app (some d) σ)) (hg : Guard ops σ o true := by first | exact gd_n rfl rfl | exact gd_t rfl rfl rfl rfl | exact gd_t rfl rfl rfl (by assumption)) (hd : o.dst = some d := by rfl) (h : LOp C o σ e ro := by exact lopC) : RunN C ops (o :: rest) K σ := rn_any hg hd h hk
theorem rkC {d : Nat} (hk : RunK C ops W (i + 1) rest K (e.app (some d) σ)) (hg : Guard ops σ o true := by first | exact gd_n rfl rfl | exact gd_t rfl rfl rfl rfl | exact gd_t rfl rfl rfl (by assumption)) (hd' : o.dst = some d := by rfl) (hd : dOk C o.dst = true := by rfl) (h : LOp C o σ e ro := by exact lopC)
    (hro : ∀ x, ro x = true → okObj ops W i x = true := by first | exact fun _ => ro_none | exact ro_one rfl | exact ro_one (by kernel_rfl) | exact ro_kIn (by decide)) (hob : ∀ p ∈ e.obj, (i, p.1) ∈ W := by first | exact ob_none | exact ob_one (by decide) | decide) : RunK C ops W i (o :: rest) K σ := rk_wr hg hd' hd h hro hob hk
end steps
theorem tells_w (ls ms : List (List Nat)) (place : Int) (hl16 : ls.length = 16) (hm16 : ms.length = 16) (ol : Go.Proofs.Ytpamepepibnlfaa.Cl.okT ls) (om : Go.Proofs.Ytpamepepibnlfaa.Cl.okT ms) : PCall Try.prog 3 [txs ls, txs ms, .p (.i place)] (.p (.b true)) := by
  refine pcall_of Try.func3 rfl (fun w0 F S0 M0 => ?_)
  cases hg : greatF ls with
  | true =>
    repeat' (first
        | refine rnB ?_
        | refine rnSB ?_
        | refine rnG ?_
        | refine rnU ?_
        | ((fail_if_success (refine rnKn ?_)); refine rnP ?_ ?_ <;> (intro hq; try (have hq' := hq; simp only [hqs] at hq')))
        | refine rkB ?_
        | refine rkSB ?_
        | refine rkF ?_
        | refine rkU ?_
        | ((fail_if_success (refine rkKn ?_)); refine rkP ?_ ?_ <;> (intro hq; try (have hq' := hq; simp only [hqs] at hq')))
        | refine stp ?_
        | refine aws_draws [] mixed (by kernel_rfl) ?_
        | refine ifT ?_
        | refine ifF ?_
        | (refine ifQ ?_ ?_ <;> (try (intro hn)))
        | (refine ifB ?_ ?_ <;> (intro hq; try (have hq' := hq; simp only [hqs] at hq'))))
    exact rt1 rfl rfl finS_p rfl
  | false =>
    cases hg2 : greatF ms with
    | true =>
      repeat' (first
          | refine rnB ?_
          | refine rnSB ?_
          | refine rnG ?_
          | refine rnU ?_
          | ((fail_if_success (refine rnKn ?_)); refine rnP ?_ ?_ <;> (intro hq; try (have hq' := hq; simp only [hqs] at hq')))
          | refine rkB ?_
          | refine rkSB ?_
          | refine rkF ?_
          | refine rkU ?_
          | ((fail_if_success (refine rkKn ?_)); refine rkP ?_ ?_ <;> (intro hq; try (have hq' := hq; simp only [hqs] at hq')))
          | refine stp ?_
          | refine aws_draws [] mixed (by kernel_rfl) ?_
          | refine ifT ?_
          | refine ifF ?_
          | (refine ifQ ?_ ?_ <;> (try (intro hn)))
          | (refine ifB ?_ ?_ <;> (intro hq; try (have hq' := hq; simp only [hqs] at hq'))))
      exact rt1 rfl rfl finS_p rfl
    | false =>
      have hf := greatF_few hl16 hg
      have hf2 := greatF_few hm16 hg2
      have c1 := at_r ls ms ⟨hf, hf2, ol, om⟩
      have c2 := at_w ls ms ⟨hf, hf2, ol, om⟩
      have c3 := extract_w ls ms ⟨hf, hf2, ol, om⟩
      have c4 := exact_w ls ms ⟨hf, hf2, ol, om⟩
      have c5 := exact_r ls ms ⟨hf, hf2, ol, om⟩
      have c6 := Made_w ls place hf
      have c7 := made_r ls place ⟨hf, ol⟩
      have c8 := made_r ls (atF ls ms (ofF ls) (ofF ms)) ⟨hf, ol⟩
      have c9 := made_r ms (atF ls ms (ofF ls) (ofF ms)) ⟨hf2, om⟩
      have oM := okB_made ol (okB_of ls) place
      have oP := okB_made ol (okB_of ls) (atF ls ms (ofF ls) (ofF ms))
      have oQ := okB_made om (okB_of ms) (atF ls ms (ofF ls) (ofF ms))
      unfold exF at c3
      generalize decide (exTo ls ms (leavesL (walkF (ofF ls) (ofF ms)).1) 16) = E at c4 c5
      generalize madeF ls (ofF ls) place = M at c6 c7 oM
      generalize madeF ls (ofF ls) (atF ls ms (ofF ls) (ofF ms)) = P at c3 c8 oP
      generalize madeF ms (ofF ms) (atF ls ms (ofF ls) (ofF ms)) = Q at c3 c9 oQ
      generalize atF ls ms (ofF ls) (ofF ms) = n at c1 c2 c3 c8 c9
      haveI : PC Try.prog 17 [strs ls, strs ms] True (.p (.i n)) := ⟨fun _ => c1⟩
      haveI : PC Try.prog 21 [txs ls, txs ms] True (.p (.i n)) := ⟨fun _ => c2⟩
      haveI : PC Try.prog 22 [txs ls, txs ms] True (.p (.b E)) := ⟨fun _ => c4⟩
      haveI : PC Try.prog 23 [strs ls, strs ms] True (.p (.b E)) := ⟨fun _ => c5⟩
      haveI : PC Try.prog 19 [strs ls, .p (.i n)] True (.p (.v (.string (strOf P)))) := ⟨fun _ => c8⟩
      haveI : PC Try.prog 19 [strs ms, .p (.i n)] True (.p (.v (.string (strOf Q)))) := ⟨fun _ => c9⟩
      haveI : PC Try.prog 20 [txs ls, .p (.i place)] True (bytesN M false) := ⟨fun _ => c6⟩
      haveI : PC Try.prog 19 [strs ls, .p (.i place)] True (.p (.v (.string (strOf M)))) := ⟨fun _ => c7⟩
      have eE : (E == E) = true := by cases E <;> rfl
      have en : decide (n = n) = true := decide_eq_true rfl
      by_cases h0 : 0 ≤ n
      · have hd : decide (0 ≤ n) = true := decide_eq_true h0
        rw [if_neg (by omega)] at c3
        haveI : PC Try.prog 18 [txs ls, txs ms] True (.tup [.one (.p (bytesP P false)), .one (.p (bytesP Q false)), .one (.p (.b true))]) := ⟨fun _ => c3⟩
        have eM : decide (M = M) = true := decide_eq_true rfl
        have eP : decide (P = P) = true := decide_eq_true rfl
        have eQ : decide (Q = Q) = true := decide_eq_true rfl
        have eis : (true == decide (0 ≤ n)) = true := by rw [hd]; rfl
        clear c1 c2 c3 c4 c5 c6 c7 c8 c9
        repeat' (first
            | refine rnB ?_
            | refine rnSB ?_
            | refine rnG ?_
            | refine rnU ?_
            | ((fail_if_success (refine rnKn ?_)); refine rnP ?_ ?_ <;> (intro hq; try (have hq' := hq; simp only [hqs] at hq')))
            | refine rkB ?_
            | refine rkSB ?_
            | refine rkF ?_
            | refine rkU ?_
            | ((fail_if_success (refine rkKn ?_)); refine rkP ?_ ?_ <;> (intro hq; try (have hq' := hq; simp only [hqs] at hq')))
            | refine stp ?_
            | refine ifT ?_
            | refine ifF ?_
            | (refine ifQ ?_ ?_ <;> (try (intro hn)))
            | (refine ifB ?_ ?_ <;> (intro hq; try (have hq' := hq; simp only [hqs] at hq'))))
        refine aws_draws [(4, 7), (5, 8), (6, 7), (7, 8)] mixed (by kernel_rfl) ?_
        repeat' (first
            | refine rk_nil ?_
            | refine rkB ?_
            | refine rkSB ?_
            | refine rkF ?_
            | refine rkU ?_
            | ((fail_if_success (refine rkKn ?_)); refine rkP ?_ ?_ <;> (intro hq; try (have hq' := hq; simp only [hqs] at hq'))))
        repeat' (first
            | refine rnB ?_
            | refine rnSB ?_
            | refine rnG ?_
            | refine rnU ?_
            | ((fail_if_success (refine rnKn ?_)); refine rnP ?_ ?_ <;> (intro hq; try (have hq' := hq; simp only [hqs] at hq')))
            | refine rkB ?_
            | refine rkSB ?_
            | refine rkF ?_
            | refine rkU ?_
            | ((fail_if_success (refine rkKn ?_)); refine rkP ?_ ?_ <;> (intro hq; try (have hq' := hq; simp only [hqs] at hq')))
            | refine stp ?_
            | refine aws_draws [] mixed (by kernel_rfl) ?_
            | refine ifT ?_
            | refine ifF ?_
            | (refine ifQ ?_ ?_ <;> (try (intro hn)))
            | (refine ifB ?_ ?_ <;> (intro hq; try (have hq' := hq; simp only [hqs] at hq'))))
        exact rt1 rfl rfl finS_p (rb eE.symm)
      · have hd : decide (0 ≤ n) = false := decide_eq_false h0
        rw [if_pos (by omega)] at c3
        haveI : PC Try.prog 18 [txs ls, txs ms] True (.tup [.one (.p (bytesP [] false)), .one (.p (bytesP [] false)), .one (.p (.b false))]) := ⟨fun _ => c3⟩
        have eM : ((strOf M).data.toList == (strOf M).data.toList) = true := by simp
        have eis : (false == decide (0 ≤ n)) = true := by rw [hd]; rfl
        clear c1 c2 c3 c4 c5 c6 c7 c8 c9
        repeat' (first
            | refine rnC ?_
            | refine rnSB ?_
            | refine rnG ?_
            | refine rnU ?_
            | ((fail_if_success (refine rnKn ?_)); refine rnP ?_ ?_ <;> (intro hq; try (have hq' := hq; simp only [hqs] at hq')))
            | refine rkC ?_
            | refine rkSB ?_
            | refine rkF ?_
            | refine rkU ?_
            | ((fail_if_success (refine rkKn ?_)); refine rkP ?_ ?_ <;> (intro hq; try (have hq' := hq; simp only [hqs] at hq')))
            | refine stp ?_
            | refine ifT ?_
            | refine ifF ?_
            | (refine ifQ ?_ ?_ <;> (try (intro hn)))
            | (refine ifB ?_ ?_ <;> (intro hq; try (have hq' := hq; simp only [hqs] at hq'))))
        refine aws_draws [(4, 7), (5, 8), (6, 7), (7, 8)] mixed (by kernel_rfl) ?_
        repeat' (first
            | refine rk_nil ?_
            | refine rkC ?_
            | refine rkSB ?_
            | refine rkF ?_
            | refine rkU ?_
            | ((fail_if_success (refine rkKn ?_)); refine rkP ?_ ?_ <;> (intro hq; try (have hq' := hq; simp only [hqs] at hq'))))
        repeat' (first
            | refine rnC ?_
            | refine rnSB ?_
            | refine rnG ?_
            | refine rnU ?_
            | ((fail_if_success (refine rnKn ?_)); refine rnP ?_ ?_ <;> (intro hq; try (have hq' := hq; simp only [hqs] at hq')))
            | refine rkC ?_
            | refine rkSB ?_
            | refine rkF ?_
            | refine rkU ?_
            | ((fail_if_success (refine rkKn ?_)); refine rkP ?_ ?_ <;> (intro hq; try (have hq' := hq; simp only [hqs] at hq')))
            | refine stp ?_
            | refine aws_draws [] mixed (by kernel_rfl) ?_
            | refine ifT ?_
            | refine ifF ?_
            | (refine ifQ ?_ ?_ <;> (try (intro hn)))
            | (refine ifB ?_ ?_ <;> (intro hq; try (have hq' := hq; simp only [hqs] at hq'))))
        exact rt1 rfl rfl finS_p (rb eE.symm)
end Go.Proofs.Ytpamepepibnlfaa.Clj
