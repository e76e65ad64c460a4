/- the reference, chapter 04: which lists are sets, and whole; joined, shared, within, spans; dots, the laws: DotsTell; dots: DotsTell's contract over what was read -/
import Derived.Test.YtgiekdhipbikoaaPz1
import Derived.Test.YtgiekdhipbikoaaPz2
namespace Go.Proofs.Ytgiekdhipbikoaa.Cf
open Go Go.RowKit Go.Aw Go.Aw.Cart Go.Aw.Ord Go.Proofs.Ytgiekdhipbikoaa.Ca Go.Proofs.Ytgiekdhipbikoaa.Cd Go.Proofs.Ytgiekdhipbikoaa.Cq
set_option linter.unusedVariables false
set_option linter.unusedSimpArgs false
set_option maxRecDepth 8000
set_option maxHeartbeats 4000000
namespace F1
theorem lopC {C : Ctx} {o : Oper} {σ : St} {e : Eff} {ro : Nat → Bool} (h : LOp C o σ e ro := by
    first
      | (apply D3.lop_bzD; (focus rfl); (focus exact inferInstance); (focus exact inferInstance); (focus exact inferInstance); (focus rfl); (focus rfl); (focus rfl); (focus rfl))
      | exact Go.Proofs.Ytgiekdhipbikoaa.Cq.Q1.lopC
      | (apply lop_call2; (focus rfl); (focus exact inferInstance); (focus exact lk_v8 (by assumption) rfl); (focus first | exact lk_m1 rfl | exact lk_m2 rfl | exact lk_m3 rfl | exact lk_o rfl | exact lk_a2 rfl | exact lk_a3 rfl | exact lk_a4 rfl | exact lk_a1 rfl | exact lk_a5 rfl | exact lk_a6 rfl | exact lk_a7 rfl | exact lk_a8 rfl | exact lk_a rfl); (focus exact inferInstance); (focus exact inferInstance); (focus first | exact True.intro | assumption | rfl | omega | ((repeat' (first | assumption | refine And.intro ?_ ?_ | omega | rfl)); done) | fail); (focus rfl))
      | fail) : LOp C o σ e ro := h
section steps
variable {C : Ctx} {ops : Array Oper} {o : Oper} {rest : List Oper} {K : St → Prop} {σ : St} {e : Eff} {ro : Nat → Bool} {W : List (Nat × Nat)} {i : Nat}
theorem rnC {d : Nat} (hk : RunN C ops rest K (e.app (some d) σ)) (hg : Guard ops σ o true := by first | exact gd_n rfl rfl | exact gd_t rfl rfl rfl rfl | exact gd_t rfl rfl rfl (by assumption)) (hd : o.dst = some d := by rfl) (h : LOp C o σ e ro := by exact lopC) : RunN C ops (o :: rest) K σ := rn_any hg hd h hk
theorem rkC {d : Nat} (hk : RunK C ops W (i + 1) rest K (e.app (some d) σ)) (hg : Guard ops σ o true := by first | exact gd_n rfl rfl | exact gd_t rfl rfl rfl rfl | exact gd_t rfl rfl rfl (by assumption)) (hd' : o.dst = some d := by rfl) (hd : dOk C o.dst = true := by rfl) (h : LOp C o σ e ro := by exact lopC)
    (hro : ∀ x, ro x = true → okObj ops W i x = true := by first | exact fun _ => ro_none | exact ro_one rfl | exact ro_k1 rfl | exact ro_one (by kernel_rfl) | exact ro_k1 (by kernel_rfl) | exact ro_kIn (by decide)) (hob : ∀ p ∈ e.obj, (i, p.1) ∈ W := by first | exact ob_none | exact ob_one (by decide) | decide) : RunK C ops W i (o :: rest) K σ := rk_wr hg hd' hd h hro hob hk
end steps
end F1
open F1
theorem right4_r (l : List Dot) (ex : Bool) (h : l.length ≤ 1000000000) : PCall Try.prog 12 [.p (.sl 2 (l.map dR) ex)] (.p (.b (dRightF l))) := by
  refine pcall_of Try.func12 rfl (fun w0 F S0 M0 => ?_)
  unfold dRightF
  obtain ⟨A, hA⟩ : ∃ A, A = drTo l 0 l.length := ⟨_, rfl⟩
  rw [← hA]
  repeat' (first
      | refine rnC ?_
      | refine rnSB ?_
      | refine rnG ?_
      | refine rnU ?_
      | ((fail_if_success (refine rnKn ?_)); refine rnP ?_ ?_ <;> (intro hq; try (have hq' := hq; simp only [hqs] at hq')))
      | refine rkC ?_
      | refine rkSB ?_
      | refine rkF ?_
      | refine rkU ?_
      | ((fail_if_success (refine rkKn ?_)); refine rkP ?_ ?_ <;> (intro hq; try (have hq' := hq; simp only [hqs] at hq')))
      | refine stp ?_
      | refine aws_draws [] mixed (by kernel_rfl) ?_
      | refine ifT ?_
      | refine ifF ?_
      | (refine ifQ ?_ ?_ <;> (try (intro hn)))
      | (refine ifB ?_ ?_ <;> (intro hq; try (have hq' := hq; simp only [hqs] at hq'))))
  refine aws_loopS [2, 3, 4, 5, 6, 7, 8, 9, 10, 11, 12, 13, 14, 15, 16, 17, 18, 19, 20, 21, 22, 23, 24, 25, 26, 27, 28, 29, 30, 31, 32] [] (fun (i : Nat) => [(3, .p (.i i))]) (fun _ => []) (fun i => i ≤ l.length ∧ A = drTo l i (l.length - i)) (fun i => l.length - i) 0 ⟨Nat.zero_le _, hA⟩ (by exact knA) (by exact knA) ?_
  rintro i β γ ⟨hi, hx⟩
  by_cases hil : i < l.length
  · have hlt : decide ((i : Int) < (l.length : Int)) = true := decide_eq_true (by omega)
    rw [show l.length - i = (l.length - (i + 1)) + 1 by omega, drTo, drow] at hx
    have ei : (i : Int).toNat = i := Int.toNat_natCast i
    cases hh : dotF (l.getD (i : Int).toNat default) with
    | false =>
      have hh' : (!dotF (l.getD (i : Int).toNat default)) = true := by rw [hh]; rfl
      rw [ei] at hh
      rw [hh, Bool.false_and, Bool.false_and] at hx
      rw [hx]
      as_aux_lemma =>
        repeat' (first
            | refine rnC ?_
            | refine rnSB ?_
            | refine rnG ?_
            | refine rnU ?_
            | ((fail_if_success (refine rnKn ?_)); refine rnP ?_ ?_ <;> (intro hq; try (have hq' := hq; simp only [hqs] at hq')))
            | refine rkC ?_
            | refine rkSB ?_
            | refine rkF ?_
            | refine rkU ?_
            | ((fail_if_success (refine rkKn ?_)); refine rkP ?_ ?_ <;> (intro hq; try (have hq' := hq; simp only [hqs] at hq')))
            | refine stp ?_
            | refine aws_draws [] mixed (by kernel_rfl) ?_
            | refine ifT ?_
            | refine ifF ?_
            | (refine ifQ ?_ ?_ <;> (try (intro hn)))
            | (refine ifB ?_ ?_ <;> (intro hq; try (have hq' := hq; simp only [hqs] at hq'))))
        exact rt1 rfl rfl finS_p rfl
    | true =>
      have hh' : (!dotF (l.getD (i : Int).toNat default)) = false := by rw [hh]; rfl
      rw [ei] at hh
      rw [hh, Bool.true_and] at hx
      by_cases h0 : i = 0
      · have d3 : decide (0 < (i : Int)) = false := decide_eq_false (by omega)
        rw [decide_eq_true h0, Bool.true_or, Bool.true_and] at hx
        as_aux_lemma =>
          repeat' (first
              | refine rnC ?_
              | refine rnSB ?_
              | refine rnG ?_
              | refine rnU ?_
              | ((fail_if_success (refine rnKn ?_)); refine rnP ?_ ?_ <;> (intro hq; try (have hq' := hq; simp only [hqs] at hq')))
              | refine rkC ?_
              | refine rkSB ?_
              | refine rkF ?_
              | refine rkU ?_
              | ((fail_if_success (refine rkKn ?_)); refine rkP ?_ ?_ <;> (intro hq; try (have hq' := hq; simp only [hqs] at hq')))
              | refine stp ?_
              | refine aws_draws [] mixed (by kernel_rfl) ?_
              | refine ifT ?_
              | refine ifF ?_
              | (refine ifQ ?_ ?_ <;> (try (intro hn)))
              | (refine ifB ?_ ?_ <;> (intro hq; try (have hq' := hq; simp only [hqs] at hq'))))
          exact ⟨i + 1, _, by omega, ⟨by omega, hx⟩, .refl, by exact frA⟩
      · have d3 : decide (0 < (i : Int)) = true := decide_eq_true (by omega)
        have ep : ((i : Int) - 1).toNat = i - 1 := by omega
        rw [decide_eq_false h0, Bool.false_or] at hx
        by_cases ho : ltD (l.getD ((i : Int) - 1).toNat default) (l.getD (i : Int).toNat default)
        · have d4 : (!decide (ltD (l.getD ((i : Int) - 1).toNat default) (l.getD (i : Int).toNat default))) = false := by rw [decide_eq_true ho]; rfl
          rw [ei, ep] at ho
          rw [decide_eq_true (cmpD_lt.2 ho), Bool.true_and] at hx
          as_aux_lemma =>
            repeat' (first
                | refine rnC ?_
                | refine rnSB ?_
                | refine rnG ?_
                | refine rnU ?_
                | ((fail_if_success (refine rnKn ?_)); refine rnP ?_ ?_ <;> (intro hq; try (have hq' := hq; simp only [hqs] at hq')))
                | refine rkC ?_
                | refine rkSB ?_
                | refine rkF ?_
                | refine rkU ?_
                | ((fail_if_success (refine rkKn ?_)); refine rkP ?_ ?_ <;> (intro hq; try (have hq' := hq; simp only [hqs] at hq')))
                | refine stp ?_
                | refine aws_draws [] mixed (by kernel_rfl) ?_
                | refine ifT ?_
                | refine ifF ?_
                | (refine ifQ ?_ ?_ <;> (try (intro hn)))
                | (refine ifB ?_ ?_ <;> (intro hq; try (have hq' := hq; simp only [hqs] at hq'))))
            exact ⟨i + 1, _, by omega, ⟨by omega, hx⟩, .refl, by exact frA⟩
        · have d4 : (!decide (ltD (l.getD ((i : Int) - 1).toNat default) (l.getD (i : Int).toNat default))) = true := by rw [decide_eq_false ho]; rfl
          rw [ei, ep] at ho
          rw [decide_eq_false (fun q => ho (cmpD_lt.1 q)), Bool.false_and] at hx
          rw [hx]
          as_aux_lemma =>
            repeat' (first
                | refine rnC ?_
                | refine rnSB ?_
                | refine rnG ?_
                | refine rnU ?_
                | ((fail_if_success (refine rnKn ?_)); refine rnP ?_ ?_ <;> (intro hq; try (have hq' := hq; simp only [hqs] at hq')))
                | refine rkC ?_
                | refine rkSB ?_
                | refine rkF ?_
                | refine rkU ?_
                | ((fail_if_success (refine rkKn ?_)); refine rkP ?_ ?_ <;> (intro hq; try (have hq' := hq; simp only [hqs] at hq')))
                | refine stp ?_
                | refine aws_draws [] mixed (by kernel_rfl) ?_
                | refine ifT ?_
                | refine ifF ?_
                | (refine ifQ ?_ ?_ <;> (try (intro hn)))
                | (refine ifB ?_ ?_ <;> (intro hq; try (have hq' := hq; simp only [hqs] at hq'))))
            exact rt1 rfl rfl finS_p rfl
  · have hlt : decide ((i : Int) < (l.length : Int)) = false := decide_eq_false (by omega)
    rw [show l.length - i = 0 by omega, drTo] at hx
    rw [hx, Bool.true_and]
    as_aux_lemma =>
      repeat' (first
          | refine rnC ?_
          | refine rnSB ?_
          | refine rnG ?_
          | refine rnU ?_
          | ((fail_if_success (refine rnKn ?_)); refine rnP ?_ ?_ <;> (intro hq; try (have hq' := hq; simp only [hqs] at hq')))
          | refine rkC ?_
          | refine rkSB ?_
          | refine rkF ?_
          | refine rkU ?_
          | ((fail_if_success (refine rkKn ?_)); refine rkP ?_ ?_ <;> (intro hq; try (have hq' := hq; simp only [hqs] at hq')))
          | refine stp ?_
          | refine aws_draws [] mixed (by kernel_rfl) ?_
          | refine ifT ?_
          | refine ifF ?_
          | (refine ifQ ?_ ?_ <;> (try (intro hn)))
          | (refine ifB ?_ ?_ <;> (intro hq; try (have hq' := hq; simp only [hqs] at hq'))))
      exact rt1 rfl rfl finS_p (rb (decide_eq_decide.2 (by omega)))
instance right4_i {l : List Dot} {ex : Bool} : PC Try.prog 12 [.p (.sl 2 (l.map dR) ex)] (l.length ≤ 1000000000) (.p (.b (dRightF l))) := ⟨right4_r l ex⟩
theorem join4_r (a b : List Dot) (ex ey : Bool) (ha : a.length ≤ 1000000) (hb : b.length ≤ 1000000) : PCall Try.prog 25 [.p (.sl 2 (a.map dR) ex), .p (.sl 2 (b.map dR) ey)] (.p (.sl 2 ((G.dotsOf (a ++ b)).map dR) false)) := by
  refine pcall_of Try.func25 rfl (fun w0 F S0 M0 => ?_)
  have hab : ([] ++ a ++ b).length ≤ 1000000000 := by rw [List.nil_append, List.length_append]; omega
  repeat' (first
      | refine rnC ?_
      | refine rnSB ?_
      | refine rnG ?_
      | refine rnU ?_
      | ((fail_if_success (refine rnKn ?_)); refine rnP ?_ ?_ <;> (intro hq; try (have hq' := hq; simp only [hqs] at hq')))
      | refine rkC ?_
      | refine rkSB ?_
      | refine rkF ?_
      | refine rkU ?_
      | ((fail_if_success (refine rkKn ?_)); refine rkP ?_ ?_ <;> (intro hq; try (have hq' := hq; simp only [hqs] at hq')))
      | refine stp ?_
      | refine ifT ?_
      | refine ifF ?_
      | (refine ifQ ?_ ?_ <;> (try (intro hn)))
      | (refine ifB ?_ ?_ <;> (intro hq; try (have hq' := hq; simp only [hqs] at hq'))))
  refine rn_says (says_frz (t := 9) (o := 5) rfl rfl rfl (by simp)) rfl ?_
  as_aux_lemma =>
    repeat' (first
        | refine rnC ?_
        | refine rnSB ?_
        | refine rnG ?_
        | refine rnU ?_
        | ((fail_if_success (refine rnKn ?_)); refine rnP ?_ ?_ <;> (intro hq; try (have hq' := hq; simp only [hqs] at hq')))
        | refine rkC ?_
        | refine rkSB ?_
        | refine rkF ?_
        | refine rkU ?_
        | ((fail_if_success (refine rkKn ?_)); refine rkP ?_ ?_ <;> (intro hq; try (have hq' := hq; simp only [hqs] at hq')))
        | refine stp ?_
        | refine ifT ?_
        | refine ifF ?_
        | (refine ifQ ?_ ?_ <;> (try (intro hn)))
        | (refine ifB ?_ ?_ <;> (intro hq; try (have hq' := hq; simp only [hqs] at hq'))))
    exact rt1 rfl rfl finS_p rfl
instance join4_i {a b : List Dot} {ex ey : Bool} : PC Try.prog 25 [.p (.sl 2 (a.map dR) ex), .p (.sl 2 (b.map dR) ey)] (a.length ≤ 1000000 ∧ b.length ≤ 1000000) (.p (.sl 2 ((G.dotsOf (a ++ b)).map dR) false)) := ⟨fun h => join4_r a b ex ey h.1 h.2⟩
theorem snocF {p : Dot → Bool} {l : List Dot} {i : Nat} (hi : i < l.length) : (l.take (i + 1)).filter p = (l.take i).filter p ++ (if p (l.getD i default) = true then [l.getD i default] else []) := by
  rw [take_get' hi, List.filter_append]
  congr 1
  by_cases h : p (l.getD i default) = true
  · rw [if_pos h, List.filter_cons_of_pos h]; rfl
  · rw [if_neg h, List.filter_cons_of_neg h]; rfl
theorem some4_r (a b : List Dot) (ex ey has : Bool) (ha : a.length ≤ 1000000) (hb : b.length ≤ 1000000) : PCall Try.prog 27 [.p (.sl 2 (a.map dR) ex), .p (.sl 2 (b.map dR) ey), .p (.b has)] (.p (.sl 2 ((G.dotsOf (someF a b has)).map dR) false)) := by
  refine pcall_of Try.func27 rfl (fun w0 F S0 M0 => ?_)
  repeat' (first
      | refine rnC ?_
      | refine rnSB ?_
      | refine rnG ?_
      | refine rnU ?_
      | ((fail_if_success (refine rnKn ?_)); refine rnP ?_ ?_ <;> (intro hq; try (have hq' := hq; simp only [hqs] at hq')))
      | refine rkC ?_
      | refine rkSB ?_
      | refine rkF ?_
      | refine rkU ?_
      | ((fail_if_success (refine rkKn ?_)); refine rkP ?_ ?_ <;> (intro hq; try (have hq' := hq; simp only [hqs] at hq')))
      | refine stp ?_
      | refine ifT ?_
      | refine ifF ?_
      | (refine ifQ ?_ ?_ <;> (try (intro hn)))
      | (refine ifB ?_ ?_ <;> (intro hq; try (have hq' := hq; simp only [hqs] at hq'))))
  refine aws_says (says_nil (t := 7) (o := 901) (ty := 35) (es := 2) rfl rfl (by decide)) ?_
  refine aws_loopS [7, 8, 9, 10, 11, 12, 13, 14, 15, 16, 17, 18, 19, 20, 21, 22, 23, 24, 25, 26, 27, 28, 29] [901] (fun (x : Nat × Nat × List Dot) => [(8, .p (.i x.1)), (7, .o (.osl 901 x.2.1 2 0 x.2.2.length))]) (fun x => [(901, (x.2.1 + 1, some (.buf 35 2 (x.2.2.map dR))))])
    (fun x => x.1 ≤ a.length ∧ x.2.2 = (a.take x.1).filter (someP b has)) (fun x => a.length - x.1) (0, 0, []) ⟨Nat.zero_le _, rfl⟩ (by exact knA) (by exact knA) ?_
  rintro ⟨i, g, m⟩ β γ ⟨hi, hm⟩
  simp only at hi hm
  have hml : m.length ≤ 1000000 := by
    have := List.length_filter_le (someP b has) (a.take i)
    rw [hm]; rw [List.length_take] at this; omega
  dsimp only
  by_cases hil : i < a.length
  · have hd : decide ((i : Int) < (a.length : Int)) = true := decide_eq_true (by omega)
    have hst := snocF (p := someP b has) hil
    rw [← hm] at hst
    have ei : (i : Int).toNat = i := Int.toNat_natCast i
    cases hs : someP b has (a.getD (i : Int).toNat default) with
    | true =>
      have hsp : (decide (a.getD (i : Int).toNat default ∈ b) == has) = true := hs
      rw [ei] at hs
      rw [if_pos hs] at hst
      as_aux_lemma =>
        repeat' (first
            | refine rnC ?_
            | refine rnSB ?_
            | refine rnG ?_
            | refine rnU ?_
            | ((fail_if_success (refine rnKn ?_)); refine rnP ?_ ?_ <;> (intro hq; try (have hq' := hq; simp only [hqs] at hq')))
            | refine rkC ?_
            | refine rkSB ?_
            | refine rkF ?_
            | refine rkU ?_
            | ((fail_if_success (refine rkKn ?_)); refine rkP ?_ ?_ <;> (intro hq; try (have hq' := hq; simp only [hqs] at hq')))
            | refine stp ?_
            | refine ifT ?_
            | refine ifF ?_
            | (refine ifQ ?_ ?_ <;> (try (intro hn)))
            | (refine ifB ?_ ?_ <;> (intro hq; try (have hq' := hq; simp only [hqs] at hq'))))
        refine ⟨(i + 1, g + 1, m ++ [(_, _)]), _, by dsimp only; omega, ⟨by dsimp only; omega, ?_⟩, .refl, by exact frA⟩
        dsimp only
        rw [hst, ei]
    | false =>
      have hsp : (decide (a.getD (i : Int).toNat default ∈ b) == has) = false := hs
      rw [ei] at hs
      rw [if_neg (by rw [hs]; simp), List.append_nil] at hst
      as_aux_lemma =>
        repeat' (first
            | refine rnC ?_
            | refine rnSB ?_
            | refine rnG ?_
            | refine rnU ?_
            | ((fail_if_success (refine rnKn ?_)); refine rnP ?_ ?_ <;> (intro hq; try (have hq' := hq; simp only [hqs] at hq')))
            | refine rkC ?_
            | refine rkSB ?_
            | refine rkF ?_
            | refine rkU ?_
            | ((fail_if_success (refine rkKn ?_)); refine rkP ?_ ?_ <;> (intro hq; try (have hq' := hq; simp only [hqs] at hq')))
            | refine stp ?_
            | refine ifT ?_
            | refine ifF ?_
            | (refine ifQ ?_ ?_ <;> (try (intro hn)))
            | (refine ifB ?_ ?_ <;> (intro hq; try (have hq' := hq; simp only [hqs] at hq'))))
        exact ⟨(i + 1, g, m), _, by dsimp only; omega, ⟨by dsimp only; omega, hst.symm⟩, .refl, by exact frA⟩
  · have hd : decide ((i : Int) < (a.length : Int)) = false := decide_eq_false (by omega)
    have e : someF a b has = m := by rw [hm, List.take_of_length_le (by omega)]; rfl
    rw [e]
    have hm9 : m.length ≤ 1000000000 := by omega
    refine aws_says (says_frz (t := 7) (o := 901) rfl rfl rfl (by simp)) ?_
    as_aux_lemma =>
      repeat' (first
          | refine rnC ?_
          | refine rnSB ?_
          | refine rnG ?_
          | refine rnU ?_
          | ((fail_if_success (refine rnKn ?_)); refine rnP ?_ ?_ <;> (intro hq; try (have hq' := hq; simp only [hqs] at hq')))
          | refine rkC ?_
          | refine rkSB ?_
          | refine rkF ?_
          | refine rkU ?_
          | ((fail_if_success (refine rkKn ?_)); refine rkP ?_ ?_ <;> (intro hq; try (have hq' := hq; simp only [hqs] at hq')))
          | refine stp ?_
          | refine ifT ?_
          | refine ifF ?_
          | (refine ifQ ?_ ?_ <;> (try (intro hn)))
          | (refine ifB ?_ ?_ <;> (intro hq; try (have hq' := hq; simp only [hqs] at hq'))))
      exact rt1 rfl rfl finS_p rfl
instance some4_i {a b : List Dot} {ex ey has : Bool} : PC Try.prog 27 [.p (.sl 2 (a.map dR) ex), .p (.sl 2 (b.map dR) ey), .p (.b has)] (a.length ≤ 1000000 ∧ b.length ≤ 1000000) (.p (.sl 2 ((G.dotsOf (someF a b has)).map dR) false)) := ⟨fun h => some4_r a b ex ey has h.1 h.2⟩
theorem within4_r (l : List Dot) (ex : Bool) (v : List Int) (hv : v.length = 8) (h : l.length ≤ 1000000) : PCall Try.prog 30 [.p (.sl 2 (l.map dR) ex), vV v] (.p (.sl 2 ((l.filter fun d => hasF v d).map dR) false)) := by
  refine pcall_of Try.func30 rfl (fun w0 F S0 M0 => ?_)
  repeat' (first
      | refine rnC ?_
      | refine rnSB ?_
      | refine rnG ?_
      | refine rnU ?_
      | ((fail_if_success (refine rnKn ?_)); refine rnP ?_ ?_ <;> (intro hq; try (have hq' := hq; simp only [hqs] at hq')))
      | refine rkC ?_
      | refine rkSB ?_
      | refine rkF ?_
      | refine rkU ?_
      | ((fail_if_success (refine rkKn ?_)); refine rkP ?_ ?_ <;> (intro hq; try (have hq' := hq; simp only [hqs] at hq')))
      | refine stp ?_
      | refine ifT ?_
      | refine ifF ?_
      | (refine ifQ ?_ ?_ <;> (try (intro hn)))
      | (refine ifB ?_ ?_ <;> (intro hq; try (have hq' := hq; simp only [hqs] at hq'))))
  refine aws_says (says_nil (t := 5) (o := 901) (ty := 35) (es := 2) rfl rfl (by decide)) ?_
  refine aws_loopS [5, 6, 7, 8, 9, 10, 11, 12, 13, 14, 15, 16, 17, 18, 19, 20, 21, 22, 23, 24, 25] [901] (fun (x : Nat × Nat × List Dot) => [(6, .p (.i x.1)), (5, .o (.osl 901 x.2.1 2 0 x.2.2.length))]) (fun x => [(901, (x.2.1 + 1, some (.buf 35 2 (x.2.2.map dR))))])
    (fun x => x.1 ≤ l.length ∧ x.2.2 = (l.take x.1).filter fun d => hasF v d) (fun x => l.length - x.1) (0, 0, []) ⟨Nat.zero_le _, rfl⟩ (by exact knA) (by exact knA) ?_
  rintro ⟨i, g, m⟩ β γ ⟨hi, hm⟩
  simp only at hi hm
  have hml : m.length ≤ 1000000 := by
    have := List.length_filter_le (fun d => hasF v d) (l.take i)
    rw [hm]; rw [List.length_take] at this; omega
  dsimp only
  by_cases hil : i < l.length
  · have hd : decide ((i : Int) < (l.length : Int)) = true := decide_eq_true (by omega)
    have hst := snocF (p := fun d => hasF v d) hil
    rw [← hm] at hst
    have ei : (i : Int).toNat = i := Int.toNat_natCast i
    cases hs : hasF v (l.getD (i : Int).toNat default) with
    | true =>
      have hs' := hs
      rw [ei] at hs'
      rw [if_pos hs'] at hst
      as_aux_lemma =>
        repeat' (first
            | refine rnC ?_
            | refine rnSB ?_
            | refine rnG ?_
            | refine rnU ?_
            | ((fail_if_success (refine rnKn ?_)); refine rnP ?_ ?_ <;> (intro hq; try (have hq' := hq; simp only [hqs] at hq')))
            | refine rkC ?_
            | refine rkSB ?_
            | refine rkF ?_
            | refine rkU ?_
            | ((fail_if_success (refine rkKn ?_)); refine rkP ?_ ?_ <;> (intro hq; try (have hq' := hq; simp only [hqs] at hq')))
            | refine stp ?_
            | refine aws_draws [] mixed (by kernel_rfl) ?_
            | refine ifT ?_
            | refine ifF ?_
            | (refine ifQ ?_ ?_ <;> (try (intro hn)))
            | (refine ifB ?_ ?_ <;> (intro hq; try (have hq' := hq; simp only [hqs] at hq'))))
        refine ⟨(i + 1, g + 1, m ++ [(_, _)]), _, by dsimp only; omega, ⟨by dsimp only; omega, ?_⟩, .refl, by exact frA⟩
        dsimp only
        rw [hst, ei]
    | false =>
      have hs' := hs
      rw [ei] at hs'
      rw [if_neg (by rw [hs']; simp), List.append_nil] at hst
      as_aux_lemma =>
        repeat' (first
            | refine rnC ?_
            | refine rnSB ?_
            | refine rnG ?_
            | refine rnU ?_
            | ((fail_if_success (refine rnKn ?_)); refine rnP ?_ ?_ <;> (intro hq; try (have hq' := hq; simp only [hqs] at hq')))
            | refine rkC ?_
            | refine rkSB ?_
            | refine rkF ?_
            | refine rkU ?_
            | ((fail_if_success (refine rkKn ?_)); refine rkP ?_ ?_ <;> (intro hq; try (have hq' := hq; simp only [hqs] at hq')))
            | refine stp ?_
            | refine aws_draws [] mixed (by kernel_rfl) ?_
            | refine ifT ?_
            | refine ifF ?_
            | (refine ifQ ?_ ?_ <;> (try (intro hn)))
            | (refine ifB ?_ ?_ <;> (intro hq; try (have hq' := hq; simp only [hqs] at hq'))))
        exact ⟨(i + 1, g, m), _, by dsimp only; omega, ⟨by dsimp only; omega, hst.symm⟩, .refl, by exact frA⟩
  · have hd : decide ((i : Int) < (l.length : Int)) = false := decide_eq_false (by omega)
    have e : (l.filter fun d => hasF v d) = m := by rw [hm, List.take_of_length_le (by omega)]
    rw [e]
    as_aux_lemma =>
      repeat' (first
          | refine rnC ?_
          | refine rnSB ?_
          | refine rnG ?_
          | refine rnU ?_
          | ((fail_if_success (refine rnKn ?_)); refine rnP ?_ ?_ <;> (intro hq; try (have hq' := hq; simp only [hqs] at hq')))
          | refine rkC ?_
          | refine rkSB ?_
          | refine rkF ?_
          | refine rkU ?_
          | ((fail_if_success (refine rkKn ?_)); refine rkP ?_ ?_ <;> (intro hq; try (have hq' := hq; simp only [hqs] at hq')))
          | refine stp ?_
          | refine ifT ?_
          | refine ifF ?_
          | (refine ifQ ?_ ?_ <;> (try (intro hn)))
          | (refine ifB ?_ ?_ <;> (intro hq; try (have hq' := hq; simp only [hqs] at hq'))))
      exact rt1 rfl rfl (.one (finC_map rfl rfl rfl rfl)) rfl
instance within4_i {l : List Dot} {ex : Bool} {v : List Int} : PC Try.prog 30 [.p (.sl 2 (l.map dR) ex), vV v] (v.length = 8 ∧ l.length ≤ 1000000) (.p (.sl 2 ((l.filter fun d => hasF v d).map dR) false)) := ⟨fun h => within4_r l ex v h.1 h.2⟩
theorem with_not {v : List Int} {d : Dot} (hv : v.length = 8) (h0 : ∀ n ∈ v, 0 ≤ n) (hd : dotF d = false) : withF v d = v := by
  rw [← withTo_all hv h0]; unfold withTo; rw [if_neg (fun k => by rw [hd] at k; cases k.1)]
theorem span4_r (l : List Dot) (ex : Bool) (h : l.length ≤ 1000000000) : PCall Try.prog 19 [.p (.sl 2 (l.map dR) ex)] (.a (v8L (spanTo l l.length))) := by
  refine pcall_of Try.func19 rfl (fun w0 F S0 M0 => ?_)
  repeat' (first
      | refine rnC ?_
      | refine rnSB ?_
      | refine rnG ?_
      | refine rnU ?_
      | ((fail_if_success (refine rnKn ?_)); refine rnP ?_ ?_ <;> (intro hq; try (have hq' := hq; simp only [hqs] at hq')))
      | refine rkC ?_
      | refine rkSB ?_
      | refine rkF ?_
      | refine rkU ?_
      | ((fail_if_success (refine rkKn ?_)); refine rkP ?_ ?_ <;> (intro hq; try (have hq' := hq; simp only [hqs] at hq')))
      | refine stp ?_
      | refine ifT ?_
      | refine ifF ?_
      | (refine ifQ ?_ ?_ <;> (try (intro hn)))
      | (refine ifB ?_ ?_ <;> (intro hq; try (have hq' := hq; simp only [hqs] at hq'))))
  refine aws_loopS [4, 5, 6, 7, 8, 9, 10, 11, 12, 13, 14, 15, 16] [3] (fun (x : Nat × List Int) => [(4, .p (.i x.1))]) (fun x => [(3, (1, some (.box 27 (v8L x.2))))])
    (fun x => x.1 ≤ l.length ∧ x.2 = spanTo l x.1) (fun x => l.length - x.1) (0, zeroV) ⟨Nat.zero_le _, rfl⟩ (by exact knA) (by exact knA) ?_
  rintro ⟨i, v⟩ β γ ⟨hi, hx⟩
  simp only at hi hx
  dsimp only
  have hv8 : v.length = 8 := by rw [hx]; exact spanTo_len l i
  have h0 : ∀ n ∈ v, 0 ≤ n := by rw [hx]; exact span_nn l i
  by_cases hil : i < l.length
  · have hlt : decide ((i : Int) < (l.length : Int)) = true := decide_eq_true (by omega)
    have ei : (i : Int).toNat = i := Int.toNat_natCast i
    repeat' (first
        | refine rnC ?_
        | refine rnSB ?_
        | refine rnG ?_
        | refine rnU ?_
        | ((fail_if_success (refine rnKn ?_)); refine rnP ?_ ?_ <;> (intro hq; try (have hq' := hq; simp only [hqs] at hq')))
        | refine rkC ?_
        | refine rkSB ?_
        | refine rkF ?_
        | refine rkU ?_
        | ((fail_if_success (refine rkKn ?_)); refine rkP ?_ ?_ <;> (intro hq; try (have hq' := hq; simp only [hqs] at hq')))
        | refine stp ?_
        | refine ifT ?_
        | refine ifF ?_
        | (refine ifQ ?_ ?_ <;> (try (intro hn)))
        | (refine ifB ?_ ?_ <;> (intro hq; try (have hq' := hq; simp only [hqs] at hq'))))
    refine aws_draws [(6, 3)] mixed (by kernel_rfl) ?_
    repeat' (first
        | refine rk_nil ?_
        | refine rkC ?_
        | refine rkSB ?_
        | refine rkF ?_
        | refine rkU ?_
        | ((fail_if_success (refine rkKn ?_)); refine rkP ?_ ?_ <;> (intro hq; try (have hq' := hq; simp only [hqs] at hq'))))
    repeat' (first
        | refine rnC ?_
        | refine rnSB ?_
        | refine rnG ?_
        | refine rnU ?_
        | ((fail_if_success (refine rnKn ?_)); refine rnP ?_ ?_ <;> (intro hq; try (have hq' := hq; simp only [hqs] at hq')))
        | refine rkC ?_
        | refine rkSB ?_
        | refine rkF ?_
        | refine rkU ?_
        | ((fail_if_success (refine rkKn ?_)); refine rkP ?_ ?_ <;> (intro hq; try (have hq' := hq; simp only [hqs] at hq')))
        | refine stp ?_
        | refine ifT ?_
        | refine ifF ?_
        | (refine ifQ ?_ ?_ <;> (try (intro hn)))
        | (refine ifB ?_ ?_ <;> (intro hq; try (have hq' := hq; simp only [hqs] at hq'))))
    refine ⟨(i + 1, withF v (l.getD (i : Int).toNat default)), _, by dsimp only; omega, ⟨by dsimp only; omega, ?_⟩, .refl, by exact frA⟩
    dsimp only
    rw [ei, spanTo, hx]
    split
    · rfl
    · rename_i hd
      exact with_not (spanTo_len l i) (span_nn l i) (by cases k : dotF (l.getD i default) <;> simp_all)
  · have hlt : decide ((i : Int) < (l.length : Int)) = false := decide_eq_false (by omega)
    obtain rfl : i = l.length := by omega
    rw [← hx]
    as_aux_lemma =>
      repeat' (first
          | refine rnC ?_
          | refine rnSB ?_
          | refine rnG ?_
          | refine rnU ?_
          | ((fail_if_success (refine rnKn ?_)); refine rnP ?_ ?_ <;> (intro hq; try (have hq' := hq; simp only [hqs] at hq')))
          | refine rkC ?_
          | refine rkSB ?_
          | refine rkF ?_
          | refine rkU ?_
          | ((fail_if_success (refine rkKn ?_)); refine rkP ?_ ?_ <;> (intro hq; try (have hq' := hq; simp only [hqs] at hq')))
          | refine stp ?_
          | refine ifT ?_
          | refine ifF ?_
          | (refine ifQ ?_ ?_ <;> (try (intro hn)))
          | (refine ifB ?_ ?_ <;> (intro hq; try (have hq' := hq; simp only [hqs] at hq'))))
      exact rc1 rfl rfl rfl rfl rfl rfl finL_p rfl
instance span4_i {l : List Dot} {ex : Bool} : PC Try.prog 19 [.p (.sl 2 (l.map dR) ex)] (l.length ≤ 1000000000) (.a (v8L (spanTo l l.length))) := ⟨span4_r l ex⟩
theorem whole4_r (l : List Dot) (ex : Bool) (h : l.length ≤ 1000000000) (hb : ∀ d ∈ l, d.2 < 18446744073709551616) : PCall Try.prog 14 [.p (.sl 2 (l.map dR) ex)] (.p (.b (wholeF l))) := by
  refine pcall_of Try.func14 rfl (fun w0 F S0 M0 => ?_)
  rw [whole_is hb]
  cases hr : dRightF l with
  | false =>
    have d1 : (!dRightF l) = true := by rw [hr]; rfl
    rw [Bool.false_and]
    as_aux_lemma =>
      repeat' (first
          | refine rnC ?_
          | refine rnSB ?_
          | refine rnG ?_
          | refine rnU ?_
          | ((fail_if_success (refine rnKn ?_)); refine rnP ?_ ?_ <;> (intro hq; try (have hq' := hq; simp only [hqs] at hq')))
          | refine rkC ?_
          | refine rkSB ?_
          | refine rkF ?_
          | refine rkU ?_
          | ((fail_if_success (refine rkKn ?_)); refine rkP ?_ ?_ <;> (intro hq; try (have hq' := hq; simp only [hqs] at hq')))
          | refine stp ?_
          | refine aws_draws [] mixed (by kernel_rfl) ?_
          | refine ifT ?_
          | refine ifF ?_
          | (refine ifQ ?_ ?_ <;> (try (intro hn)))
          | (refine ifB ?_ ?_ <;> (intro hq; try (have hq' := hq; simp only [hqs] at hq'))))
      exact rt1 rfl rfl finS_p rfl
  | true =>
    have d1 : (!dRightF l) = false := by rw [hr]; rfl
    obtain ⟨_, hdot, _⟩ := dr_is hr
    rw [Bool.true_and]
    haveI : ∀ a b : Int, PC Try.prog 16 [.p (.sl 2 (l.map dR) ex), .a [.p (.i a), .p (.k .u64 b)]] True (.p (.b (decide (((a, b) : Dot) ∈ l)))) := fun a b => ⟨fun _ => has4_r l ex (a, b) h⟩
    repeat' (first
        | refine rnC ?_
        | refine rnSB ?_
        | refine rnG ?_
        | refine rnU ?_
        | ((fail_if_success (refine rnKn ?_)); refine rnP ?_ ?_ <;> (intro hq; try (have hq' := hq; simp only [hqs] at hq')))
        | refine rkC ?_
        | refine rkSB ?_
        | refine rkF ?_
        | refine rkU ?_
        | ((fail_if_success (refine rkKn ?_)); refine rkP ?_ ?_ <;> (intro hq; try (have hq' := hq; simp only [hqs] at hq')))
        | refine stp ?_
        | refine aws_draws [] mixed (by kernel_rfl) ?_
        | refine ifT ?_
        | refine ifF ?_
        | (refine ifQ ?_ ?_ <;> (try (intro hn)))
        | (refine ifB ?_ ?_ <;> (intro hq; try (have hq' := hq; simp only [hqs] at hq'))))
    refine aws_loopS [2, 3, 4, 8, 9, 10, 11, 12, 13, 14, 15, 16, 17, 18, 19, 20, 21, 22, 23, 24, 25, 26, 27, 28, 29, 30] [4] (fun (x : Nat × Option MO) => [(3, .p (.i x.1))]) (fun x => [(4, (x.1, x.2))]) (fun x => x.1 ≤ l.length ∧ ∀ j, j < x.1 → gapF l (l.getD j default) = false) (fun x => l.length - x.1) (0, none) ⟨Nat.zero_le _, fun j hj => absurd hj (Nat.not_lt_zero _)⟩ (by exact knA) (by exact knA) ?_
    rintro ⟨i, c⟩ β γ ⟨hi, hx⟩
    simp only at hi hx
    dsimp only
    by_cases hil : i < l.length
    · have hlt : decide ((i : Int) < (l.length : Int)) = true := decide_eq_true (by omega)
      have ei : (i : Int).toNat = i := Int.toNat_natCast i
      have hdm : dotF (l.getD (i : Int).toNat default) = true := by rw [ei, getD_at hil]; exact hdot _ (List.getElem_mem _)
      have hbm : (l.getD (i : Int).toNat default).2 < 18446744073709551616 := by rw [ei, getD_at hil]; exact hb _ (List.getElem_mem _)
      have hd1 := of_decide_eq_true hdm
      have next : gapF l (l.getD i default) = false → ∀ j, j < i + 1 → gapF l (l.getD j default) = false := fun q j hj => by
        by_cases e : j = i
        · rw [e]; exact q
        · exact hx j (by omega)
      by_cases hz : 0 < (l.getD (i : Int).toNat default).2 - 1
      · have t1 : decide (0 < (l.getD (i : Int).toNat default).2 - 1) = true := decide_eq_true hz
        by_cases hm : ((l.getD (i : Int).toNat default).1, (l.getD (i : Int).toNat default).2 - 1) ∈ l
        · have t2 : (!decide (((l.getD (i : Int).toNat default).1, (l.getD (i : Int).toNat default).2 - 1) ∈ l)) = false := by rw [decide_eq_true hm]; rfl
          have hg : gapF l (l.getD (i : Int).toNat default) = false := by unfold gapF; rw [t2, Bool.and_false]
          rw [ei] at hg
          as_aux_lemma =>
            repeat' (first
                | refine rnC ?_
                | refine rnSB ?_
                | refine rnG ?_
                | refine rnU ?_
                | ((fail_if_success (refine rnKn ?_)); refine rnP ?_ ?_ <;> (intro hq; try (have hq' := hq; simp only [hqs] at hq')))
                | refine rkC ?_
                | refine rkSB ?_
                | refine rkF ?_
                | refine rkU ?_
                | ((fail_if_success (refine rkKn ?_)); refine rkP ?_ ?_ <;> (intro hq; try (have hq' := hq; simp only [hqs] at hq')))
                | refine stp ?_
                | refine aws_draws [] mixed (by kernel_rfl) ?_
                | refine ifT ?_
                | refine ifF ?_
                | (refine ifQ ?_ ?_ <;> (try (intro hn)))
                | (refine ifB ?_ ?_ <;> (intro hq; try (have hq' := hq; simp only [hqs] at hq'))))
            exact ⟨(i + 1, _), _, by dsimp only; omega, ⟨by dsimp only; omega, next hg⟩, .refl, by exact frA⟩
        · have t2 : (!decide (((l.getD (i : Int).toNat default).1, (l.getD (i : Int).toNat default).2 - 1) ∈ l)) = true := by rw [decide_eq_false hm]; rfl
          have hg : gapF l (l.getD (i : Int).toNat default) = true := by unfold gapF; rw [t1, t2]; rfl
          have e : (l.all fun d => !gapF l d) = false := by
            rw [List.all_eq_false]
            refine ⟨_, (show l.getD (i : Int).toNat default ∈ l by rw [ei, getD_at hil]; exact List.getElem_mem _), ?_⟩
            rw [hg]; simp
          rw [e]
          as_aux_lemma =>
            repeat' (first
                | refine rnC ?_
                | refine rnSB ?_
                | refine rnG ?_
                | refine rnU ?_
                | ((fail_if_success (refine rnKn ?_)); refine rnP ?_ ?_ <;> (intro hq; try (have hq' := hq; simp only [hqs] at hq')))
                | refine rkC ?_
                | refine rkSB ?_
                | refine rkF ?_
                | refine rkU ?_
                | ((fail_if_success (refine rkKn ?_)); refine rkP ?_ ?_ <;> (intro hq; try (have hq' := hq; simp only [hqs] at hq')))
                | refine stp ?_
                | refine aws_draws [] mixed (by kernel_rfl) ?_
                | refine ifT ?_
                | refine ifF ?_
                | (refine ifQ ?_ ?_ <;> (try (intro hn)))
                | (refine ifB ?_ ?_ <;> (intro hq; try (have hq' := hq; simp only [hqs] at hq'))))
            exact rt1 rfl rfl finS_p rfl
      · have t1 : decide (0 < (l.getD (i : Int).toNat default).2 - 1) = false := decide_eq_false hz
        have hg : gapF l (l.getD (i : Int).toNat default) = false := by unfold gapF; rw [t1, Bool.false_and]
        rw [ei] at hg
        as_aux_lemma =>
          repeat' (first
              | refine rnC ?_
              | refine rnSB ?_
              | refine rnG ?_
              | refine rnU ?_
              | ((fail_if_success (refine rnKn ?_)); refine rnP ?_ ?_ <;> (intro hq; try (have hq' := hq; simp only [hqs] at hq')))
              | refine rkC ?_
              | refine rkSB ?_
              | refine rkF ?_
              | refine rkU ?_
              | ((fail_if_success (refine rkKn ?_)); refine rkP ?_ ?_ <;> (intro hq; try (have hq' := hq; simp only [hqs] at hq')))
              | refine stp ?_
              | refine aws_draws [] mixed (by kernel_rfl) ?_
              | refine ifT ?_
              | refine ifF ?_
              | (refine ifQ ?_ ?_ <;> (try (intro hn)))
              | (refine ifB ?_ ?_ <;> (intro hq; try (have hq' := hq; simp only [hqs] at hq'))))
          exact ⟨(i + 1, _), _, by dsimp only; omega, ⟨by dsimp only; omega, next hg⟩, .refl, by exact frA⟩
    · have hlt : decide ((i : Int) < (l.length : Int)) = false := decide_eq_false (by omega)
      have e : (l.all fun d => !gapF l d) = true := by
        rw [List.all_eq_true]
        intro d hd
        obtain ⟨j, hj, rfl⟩ := List.getElem_of_mem hd
        have := hx j (by omega)
        rw [getD_at hj] at this
        rw [this]; rfl
      rw [e]
      as_aux_lemma =>
        repeat' (first
            | refine rnC ?_
            | refine rnSB ?_
            | refine rnG ?_
            | refine rnU ?_
            | ((fail_if_success (refine rnKn ?_)); refine rnP ?_ ?_ <;> (intro hq; try (have hq' := hq; simp only [hqs] at hq')))
            | refine rkC ?_
            | refine rkSB ?_
            | refine rkF ?_
            | refine rkU ?_
            | ((fail_if_success (refine rkKn ?_)); refine rkP ?_ ?_ <;> (intro hq; try (have hq' := hq; simp only [hqs] at hq')))
            | refine stp ?_
            | refine aws_draws [] mixed (by kernel_rfl) ?_
            | refine ifT ?_
            | refine ifF ?_
            | (refine ifQ ?_ ?_ <;> (try (intro hn)))
            | (refine ifB ?_ ?_ <;> (intro hq; try (have hq' := hq; simp only [hqs] at hq'))))
        exact rt1 rfl rfl finS_p rfl
end Go.Proofs.Ytgiekdhipbikoaa.Cf
namespace Go.Proofs.Ytgiekdhipbikoaa.Cf
open Go Go.RowKit Go.Aw Go.Aw.Cart Go.Aw.Ord Go.Proofs.Ytgiekdhipbikoaa.Ca Go.Proofs.Ytgiekdhipbikoaa.Cd Go.Proofs.Ytgiekdhipbikoaa.Cq
set_option linter.unusedVariables false
set_option linter.unusedSimpArgs false
set_option maxRecDepth 8000
set_option maxHeartbeats 4000000
namespace FT
theorem lopC {C : Ctx} {o : Oper} {σ : St} {e : Eff} {ro : Nat → Bool} (h : LOp C o σ e ro := by
    first
      | exact F1.lopC
      | (apply lop_call2; (focus rfl); (focus exact inferInstance); (focus first | exact lk_m1 rfl | exact lk_m2 rfl | exact lk_m3 rfl | exact lk_o rfl | exact lk_a2 rfl | exact lk_a3 rfl | exact lk_a4 rfl | exact lk_a1 rfl | exact lk_a5 rfl | exact lk_a6 rfl | exact lk_a7 rfl | exact lk_a8 rfl | exact lk_a rfl); (focus exact lk_v8 (by assumption) rfl); (focus exact inferInstance); (focus exact inferInstance); (focus first | exact True.intro | assumption | rfl | omega | ((repeat' (first | assumption | refine And.intro ?_ ?_ | omega | rfl)); done) | fail); (focus rfl))
      | fail) : LOp C o σ e ro := h
section steps
variable {C : Ctx} {ops : Array Oper} {o : Oper} {rest : List Oper} {K : St → Prop} {σ : St} {e : Eff} {ro : Nat → Bool} {W : List (Nat × Nat)} {i : Nat}
theorem rnC {d : Nat} (hk : RunN C ops rest K (e.app (some d) σ)) (hg : Guard ops σ o true := by first | exact gd_n rfl rfl | exact gd_t rfl rfl rfl rfl | exact gd_t rfl rfl rfl (by assumption)) (hd : o.dst = some d := by rfl) (h : LOp C o σ e ro := by exact lopC) : RunN C ops (o :: rest) K σ := rn_any hg hd h hk
theorem rkC {d : Nat} (hk : RunK C ops W (i + 1) rest K (e.app (some d) σ)) (hg : Guard ops σ o true := by first | exact gd_n rfl rfl | exact gd_t rfl rfl rfl rfl | exact gd_t rfl rfl rfl (by assumption)) (hd' : o.dst = some d := by rfl) (hd : dOk C o.dst = true := by rfl) (h : LOp C o σ e ro := by exact lopC)
    (hro : ∀ x, ro x = true → okObj ops W i x = true := by first | exact fun _ => ro_none | exact ro_one rfl | exact ro_k1 rfl | exact ro_one (by kernel_rfl) | exact ro_k1 (by kernel_rfl) | exact ro_kIn (by decide)) (hob : ∀ p ∈ e.obj, (i, p.1) ∈ W := by first | exact ob_none | exact ob_one (by decide) | decide) : RunK C ops W i (o :: rest) K σ := rk_wr hg hd' hd h hro hob hk
end steps
end FT
open FT
theorem dof_len (l : List Dot) : (G.dotsOf l).length ≤ l.length := by
  rw [dotsOf_is]
  have := setF_len l
  rw [List.length_take]; omega
theorem dotsTell_w (a b : List Dot) (ex ey : Bool) (d : Dot) (v : List Int) (hv : v.length = 8) (ha : ∀ x ∈ a, x.2 < 18446744073709551616) : PCall Try.prog 3 [.p (.sl 2 (a.map dR) ex), .p (.sl 2 (b.map dR) ey), dV d, vV v] (.p (.b true)) := by
  have ev : vV v = .a (v8L v) := congrArg AV.a (v8L_is hv)
  rw [ev]
  refine pcall_of Try.func3 rfl (fun w0 F S0 M0 => ?_)
  by_cases hg : 60 < a.length
  · have d1 : decide (60 < (a.length : Int)) = true := decide_eq_true (by omega)
    as_aux_lemma =>
      repeat' (first
          | refine rnC ?_
          | refine rnSB ?_
          | refine rnG ?_
          | refine rnU ?_
          | ((fail_if_success (refine rnKn ?_)); refine rnP ?_ ?_ <;> (intro hq; try (have hq' := hq; simp only [hqs] at hq')))
          | refine rkC ?_
          | refine rkSB ?_
          | refine rkF ?_
          | refine rkU ?_
          | ((fail_if_success (refine rkKn ?_)); refine rkP ?_ ?_ <;> (intro hq; try (have hq' := hq; simp only [hqs] at hq')))
          | refine stp ?_
          | refine aws_draws [] mixed (by kernel_rfl) ?_
          | refine ifT ?_
          | refine ifF ?_
          | (refine ifQ ?_ ?_ <;> (try (intro hn)))
          | (refine ifB ?_ ?_ <;> (intro hq; try (have hq' := hq; simp only [hqs] at hq'))))
      exact rt1 rfl rfl finS_p rfl
  · have d1 : decide (60 < (a.length : Int)) = false := decide_eq_false (by omega)
    by_cases hk : 60 < b.length
    · have d2 : decide (60 < (b.length : Int)) = true := decide_eq_true (by omega)
      as_aux_lemma =>
        repeat' (first
            | refine rnC ?_
            | refine rnSB ?_
            | refine rnG ?_
            | refine rnU ?_
            | ((fail_if_success (refine rnKn ?_)); refine rnP ?_ ?_ <;> (intro hq; try (have hq' := hq; simp only [hqs] at hq')))
            | refine rkC ?_
            | refine rkSB ?_
            | refine rkF ?_
            | refine rkU ?_
            | ((fail_if_success (refine rkKn ?_)); refine rkP ?_ ?_ <;> (intro hq; try (have hq' := hq; simp only [hqs] at hq')))
            | refine stp ?_
            | refine aws_draws [] mixed (by kernel_rfl) ?_
            | refine ifT ?_
            | refine ifF ?_
            | (refine ifQ ?_ ?_ <;> (try (intro hn)))
            | (refine ifB ?_ ?_ <;> (intro hq; try (have hq' := hq; simp only [hqs] at hq'))))
        exact rt1 rfl rfl finS_p rfl
    · have d2 : decide (60 < (b.length : Int)) = false := decide_eq_false (by omega)
      have a9 : a.length ≤ 1000000000 := by omega
      have b9 : b.length ≤ 1000000000 := by omega
      have a4 : a.length ≤ 400000000 := by omega
      have b4 : b.length ≤ 400000000 := by omega
      have a6 : a.length ≤ 1000000 := by omega
      have b6 : b.length ≤ 1000000 := by omega
      have p1 : (G.dotsOf a).length ≤ 1000000 := Nat.le_trans (dof_len a) a6
      have p2 : (G.dotsOf (a ++ b)).length ≤ 1000000 := Nat.le_trans (dof_len _) (by rw [List.length_append]; omega)
      have p3 : (G.dotsOf (someF a b true)).length ≤ 1000000 := Nat.le_trans (dof_len _) (Nat.le_trans (some_len a b true) a6)
      have p4 : (G.dotsOf (someF a b false)).length ≤ 1000000 := Nat.le_trans (dof_len _) (Nat.le_trans (some_len a b false) a6)
      have p5 : (a.filter fun d => hasF v d).length ≤ 1000000 := Nat.le_trans (List.length_filter_le _ _) a6
      have q1 : (G.dotsOf a).length ≤ 1000000000 := by omega
      have q2 : (G.dotsOf (a ++ b)).length ≤ 1000000000 := by omega
      have q3 : (G.dotsOf (someF a b true)).length ≤ 1000000000 := by omega
      have q4 : (G.dotsOf (someF a b false)).length ≤ 1000000000 := by omega
      have q5 : (a.filter fun d => hasF v d).length ≤ 1000000000 := by omega
      have c1 := whole_w a ex a9 ha
      have c2 := whole4_r a false a9 ha
      haveI : PC Try.prog 13 [.p (.sl 2 (a.map dR) ex)] True (.p (.b (wholeF a))) := ⟨fun _ => c1⟩
      haveI : PC Try.prog 14 [.p (.sl 2 (a.map dR) false)] True (.p (.b (wholeF a))) := ⟨fun _ => c2⟩
      clear c1 c2
      have n1 : (dRightF a != dRightF a) = false := bne_self_eq_false _
      have n2 : (wholeF a != wholeF a) = false := bne_self_eq_false _
      have n3 : (decide (d ∈ a) != decide (d ∈ a)) = false := bne_self_eq_false _
      have n4 := congrArg not (vEqV (spanTo a a.length) (spanTo a a.length) (spanTo_len _ _) (spanTo_len _ _))
      rw [decide_eq_true rfl, Bool.not_true] at n4
      have n5 : (decide (a = b) != decide (a = b)) = false := bne_self_eq_false _
      have m1 : decide (G.dotsOf a = G.dotsOf a) = true := decide_eq_true rfl
      have m2 : decide (G.dotsOf (a ++ b) = G.dotsOf (a ++ b)) = true := decide_eq_true rfl
      have m3 : decide (G.dotsOf (someF a b true) = G.dotsOf (someF a b true)) = true := decide_eq_true rfl
      have m4 : decide (G.dotsOf (someF a b false) = G.dotsOf (someF a b false)) = true := decide_eq_true rfl
      have m5 : decide ((a.filter fun d => hasF v d) = (a.filter fun d => hasF v d)) = true := decide_eq_true rfl
      as_aux_lemma =>
        repeat' (first
            | refine rnC ?_
            | refine rnSB ?_
            | refine rnG ?_
            | refine rnU ?_
            | ((fail_if_success (refine rnKn ?_)); refine rnP ?_ ?_ <;> (intro hq; try (have hq' := hq; simp only [hqs] at hq')))
            | refine rkC ?_
            | refine rkSB ?_
            | refine rkF ?_
            | refine rkU ?_
            | ((fail_if_success (refine rkKn ?_)); refine rkP ?_ ?_ <;> (intro hq; try (have hq' := hq; simp only [hqs] at hq')))
            | refine stp ?_
            | refine aws_draws [] mixed (by kernel_rfl) ?_
            | refine ifT ?_
            | refine ifF ?_
            | (refine ifQ ?_ ?_ <;> (try (intro hn)))
            | (refine ifB ?_ ?_ <;> (intro hq; try (have hq' := hq; simp only [hqs] at hq'))))
        exact rt1 rfl rfl finS_p (rb m5.symm)
end Go.Proofs.Ytgiekdhipbikoaa.Cf
namespace Go.Proofs.Ytgiekdhipbikoaa.Ca
open Go Go.RowKit Go.Aw Go.Aw.Cart
set_option linter.unusedVariables false
set_option linter.unusedSimpArgs false
theorem v_arg {v : List Int} (h : v.length = 8) : argAV true (vRow v) = vV v := by
  match v, h with
  | [a0, a1, a2, a3, a4, a5, a6, a7], _ => rfl
theorem dotsTell_a (a b : List Dot) (d : Dot) (v : List Int) (ha : ∀ d ∈ a, DB d) (hv : v.length = 8) : PCall Try.prog 3 [argAV false [.sl 2 (a.map fun d => dR d) false], argAV false [.sl 2 (b.map fun d => dR d) false], argAV true (dR d), argAV true (vRow v)] (.p (.b true)) := by
  rw [v_arg hv]
  exact Cf.dotsTell_w a b false false d v hv fun d hd => (ha d hd).2.2
end Go.Proofs.Ytgiekdhipbikoaa.Ca
