/- carts, the laws: CartValue -/
import Derived.Test.YtacofbbclmbbeaaCaV
import Derived.Test.YtacofbbclmbbeaaKm
namespace Go.Proofs.Ytacofbbclmbbeaa.Ca
open Go Go.RowKit Go.Aw Go.Aw.Cart Go.Aw.Ord Go.Sort
set_option linter.unusedVariables false
set_option linter.unusedSimpArgs false
set_option maxRecDepth 8000
set_option maxHeartbeats 4000000
namespace B3
theorem lopC {C : Ctx} {o : Oper} {σ : St} {e : Eff} {ro : Nat → Bool} (h : LOp C o σ e ro := by
    first
      | (apply D2.lop_bzE; (focus rfl); (focus exact inferInstance); (focus exact inferInstance); (focus exact inferInstance); (focus rfl); (focus rfl); (focus rfl); (focus rfl))
      | (apply gField; (focus rfl); exact lop_fieldAddr_p rfl rfl (by decide) rfl rfl)
      | (apply lop_call1; (focus rfl); (focus exact inferInstance); (focus exact lk_cart rfl); (focus exact inferInstance); (focus exact inferInstance); (focus first | exact True.intro | assumption | rfl | omega | ((repeat' (first | assumption | refine And.intro ?_ ?_ | omega | rfl)); done) | fail); (focus rfl))
            | (apply lop_call2; (focus rfl); (focus exact inferInstance); (focus exact lk_cart rfl); (focus exact lk_cart rfl); (focus exact inferInstance); (focus exact inferInstance); (focus first | exact True.intro | assumption | rfl | omega | ((repeat' (first | assumption | refine And.intro ?_ ?_ | omega | rfl)); done) | fail); (focus rfl))
            | (apply lop_call2; (focus rfl); (focus exact inferInstance); (focus exact lk_cart rfl); (focus first | exact lk_m1 rfl | exact lk_m2 rfl | exact lk_m3 rfl | exact lk_o rfl | exact lk_a2 rfl | exact lk_a3 rfl | exact lk_a4 rfl | exact lk_a1 rfl | exact lk_a5 rfl | exact lk_a6 rfl | exact lk_a7 rfl | exact lk_a8 rfl | exact lk_a rfl); (focus exact inferInstance); (focus exact inferInstance); (focus first | exact True.intro | assumption | rfl | omega | ((repeat' (first | assumption | refine And.intro ?_ ?_ | omega | rfl)); done) | fail); (focus rfl))
      | exact lopV
      | fail) : LOp C o σ e ro := h
section steps
variable {C : Ctx} {ops : Array Oper} {o : Oper} {rest : List Oper} {K : St → Prop} {σ : St} {e : Eff} {ro : Nat → Bool} {W : List (Nat × Nat)} {i : Nat}
theorem rnC {d : Nat} (hk : RunN C ops rest K (e.app (some d) σ)) (hg : Guard ops σ o true := by first | exact gd_n rfl rfl | exact gd_t rfl rfl rfl rfl | exact gd_t rfl rfl rfl (by assumption)) (hd : o.dst = some d := by rfl) (h : LOp C o σ e ro := by exact lopC) : RunN C ops (o :: rest) K σ := rn_any hg hd h hk
theorem rkC {d : Nat} (hk : RunK C ops W (i + 1) rest K (e.app (some d) σ)) (hg : Guard ops σ o true := by first | exact gd_n rfl rfl | exact gd_t rfl rfl rfl rfl | exact gd_t rfl rfl rfl (by assumption)) (hd' : o.dst = some d := by rfl) (hd : dOk C o.dst = true := by rfl) (h : LOp C o σ e ro := by exact lopC)
    (hro : ∀ x, ro x = true → okObj ops W i x = true := by first | exact fun _ => ro_none | exact ro_one rfl | exact ro_one (by kernel_rfl) | exact ro_kIn (by decide)) (hob : ∀ p ∈ e.obj, (i, p.1) ∈ W := by first | exact ob_none | exact ob_one (by decide) | decide) : RunK C ops W i (o :: rest) K σ := rk_wr hg hd' hd h hro hob hk
end steps
end B3
open B3
theorem cartValue_w (v : List Int) (l : List Ent) (ex : Bool) (k : Int) (hv : v.length = 8) (hb : ∀ e ∈ l, QB e) : PCall Try.prog 4 [cV v l ex, .p (.i k)] (.p (.b true)) := by
  refine pcall_of Try.func4 rfl (fun w0 F S0 M0 => ?_)
  by_cases hg : 60 < l.length
  · have d1 : decide (60 < (l.length : Int)) = true := decide_eq_true (by omega)
    as_aux_lemma =>
      repeat' (first
          | refine rnC ?_
          | refine rnSB ?_
          | refine rnG ?_
          | refine rnU ?_
          | ((fail_if_success (refine rnKn ?_)); refine rnP ?_ ?_ <;> (intro hq; try (have hq' := hq; simp only [hqs] at hq')))
          | refine rkC ?_
          | refine rkSB ?_
          | refine rkF ?_
          | refine rkU ?_
          | ((fail_if_success (refine rkKn ?_)); refine rkP ?_ ?_ <;> (intro hq; try (have hq' := hq; simp only [hqs] at hq')))
          | refine stp ?_
          | refine aws_draws [] mixed (by kernel_rfl) ?_
          | refine ifT ?_
          | refine ifF ?_
          | (refine ifQ ?_ ?_ <;> (try (intro hn)))
          | (refine ifB ?_ ?_ <;> (intro hq; try (have hq' := hq; simp only [hqs] at hq'))))
      exact rt1 rfl rfl finS_p rfl
  · have d1 : decide (60 < (l.length : Int)) = false := decide_eq_false (by omega)
    have hl2 : l.length ≤ 1000000000 := by omega
    have vl : (valueF l).length ≤ l.length := value_len l
    have v1 : ∀ i, i < (valueF l).length → ((valueF l).getD i default).2 = getQ l ((valueF l).getD i default).1 := fun i h => value_q h
    have v2 : ∀ i, i < (valueF l).length → 0 < (ofF l ((valueF l).getD i default).1).length := fun i h => value_is h
    have v3 : ∀ i, 0 < i → i < (valueF l).length → ((valueF l).getD (i - 1) default).1 < ((valueF l).getD i default).1 := fun i h0 h => value_rise h0 h
    have v4 : cntTo l (valueF l) (valueF l).length = (l.length : Int) := cnt_whole l
    repeat' (first
        | refine rnC ?_
        | refine rnSB ?_
        | refine rnG ?_
        | refine rnU ?_
        | ((fail_if_success (refine rnKn ?_)); refine rnP ?_ ?_ <;> (intro hq; try (have hq' := hq; simp only [hqs] at hq')))
        | refine rkC ?_
        | refine rkSB ?_
        | refine rkF ?_
        | refine rkU ?_
        | ((fail_if_success (refine rkKn ?_)); refine rkP ?_ ?_ <;> (intro hq; try (have hq' := hq; simp only [hqs] at hq')))
        | refine stp ?_
        | refine aws_draws [] mixed (by kernel_rfl) ?_
        | refine ifT ?_
        | refine ifF ?_
        | (refine ifQ ?_ ?_ <;> (try (intro hn)))
        | (refine ifB ?_ ?_ <;> (intro hq; try (have hq' := hq; simp only [hqs] at hq'))))
    refine aws_loopS [4, 6, 7, 8, 17, 18, 19, 20, 21, 22, 23, 24, 25, 26, 27, 28, 29, 30, 31, 32, 33, 34, 35, 36, 37, 38, 39, 40, 41, 42, 43, 44, 45, 46, 47, 48, 49, 50, 51, 52, 53, 54, 55, 56, 57, 58, 59, 60, 61] [] (fun (i : Nat) => [(6, .p (.i i))]) (fun _ => []) (fun i => i ≤ (valueF l).length) (fun i => (valueF l).length - i) 0 (Nat.zero_le _) (by exact knA) (by exact knA) ?_
    intro i β γ hi
    by_cases hil : i < (valueF l).length
    · have q0 : decide ((i : Int) < ((valueF l).length : Int)) = true := decide_eq_true (by omega)
      have ei : (i : Int).toNat = i := Int.toNat_natCast i
      have q1 : (!decide (0 < ((ofF l ((valueF l).getD (i : Int).toNat default).1).length : Int))) = false := by
        rw [decide_eq_true]; rfl
        rw [ei]; have := v2 i hil; omega
      have q2 : decide (getQ l ((valueF l).getD (i : Int).toNat default).1 ≠ ((valueF l).getD (i : Int).toNat default).2) = false := decide_eq_false fun q => q (by rw [ei]; exact (v1 i hil).symm)
      by_cases h0 : i = 0
      · have q3 : decide (0 < (i : Int)) = false := decide_eq_false (by omega)
        as_aux_lemma =>
          repeat' (first
              | refine rnC ?_
              | refine rnSB ?_
              | refine rnG ?_
              | refine rnU ?_
              | ((fail_if_success (refine rnKn ?_)); refine rnP ?_ ?_ <;> (intro hq; try (have hq' := hq; simp only [hqs] at hq')))
              | refine rkC ?_
              | refine rkSB ?_
              | refine rkF ?_
              | refine rkU ?_
              | ((fail_if_success (refine rkKn ?_)); refine rkP ?_ ?_ <;> (intro hq; try (have hq' := hq; simp only [hqs] at hq')))
              | refine stp ?_
              | refine aws_draws [] mixed (by kernel_rfl) ?_
              | refine ifT ?_
              | refine ifF ?_
              | (refine ifQ ?_ ?_ <;> (try (intro hn)))
              | (refine ifB ?_ ?_ <;> (intro hq; try (have hq' := hq; simp only [hqs] at hq'))))
          exact ⟨i + 1, _, by omega, by omega, .refl, by exact frA⟩
      · have q3 : decide (0 < (i : Int)) = true := decide_eq_true (by omega)
        have q4 : decide (((valueF l).getD (i : Int).toNat default).1 ≤ ((valueF l).getD ((i : Int) - 1).toNat default).1) = false := decide_eq_false (by
          rw [ei, show ((i : Int) - 1).toNat = i - 1 by omega]
          have := v3 i (by omega) hil; omega)
        as_aux_lemma =>
          repeat' (first
              | refine rnC ?_
              | refine rnSB ?_
              | refine rnG ?_
              | refine rnU ?_
              | ((fail_if_success (refine rnKn ?_)); refine rnP ?_ ?_ <;> (intro hq; try (have hq' := hq; simp only [hqs] at hq')))
              | refine rkC ?_
              | refine rkSB ?_
              | refine rkF ?_
              | refine rkU ?_
              | ((fail_if_success (refine rkKn ?_)); refine rkP ?_ ?_ <;> (intro hq; try (have hq' := hq; simp only [hqs] at hq')))
              | refine stp ?_
              | refine aws_draws [] mixed (by kernel_rfl) ?_
              | refine ifT ?_
              | refine ifF ?_
              | (refine ifQ ?_ ?_ <;> (try (intro hn)))
              | (refine ifB ?_ ?_ <;> (intro hq; try (have hq' := hq; simp only [hqs] at hq'))))
          exact ⟨i + 1, _, by omega, by omega, .refl, by exact frA⟩
    · have q0 : decide ((i : Int) < ((valueF l).length : Int)) = false := decide_eq_false (by omega)
      repeat' (first
          | refine rnC ?_
          | refine rnSB ?_
          | refine rnG ?_
          | refine rnU ?_
          | ((fail_if_success (refine rnKn ?_)); refine rnP ?_ ?_ <;> (intro hq; try (have hq' := hq; simp only [hqs] at hq')))
          | refine rkC ?_
          | refine rkSB ?_
          | refine rkF ?_
          | refine rkU ?_
          | ((fail_if_success (refine rkKn ?_)); refine rkP ?_ ?_ <;> (intro hq; try (have hq' := hq; simp only [hqs] at hq')))
          | refine stp ?_
          | refine aws_draws [] mixed (by kernel_rfl) ?_
          | refine ifT ?_
          | refine ifF ?_
          | (refine ifQ ?_ ?_ <;> (try (intro hn)))
          | (refine ifB ?_ ?_ <;> (intro hq; try (have hq' := hq; simp only [hqs] at hq'))))
      refine aws_loopS [9, 10, 62, 63, 64, 65, 66, 67, 68, 69, 70, 71, 72, 73, 74, 75, 76, 77] [] (fun (j : Nat) => [(9, .p (.i (cntTo l (valueF l) j))), (10, .p (.i j))]) (fun _ => []) (fun j => j ≤ (valueF l).length) (fun j => (valueF l).length - j) 0 (Nat.zero_le _) (by exact knA) (by exact knA) ?_
      intro j β γ hj
      by_cases hjl : j < (valueF l).length
      · have q5 : decide ((j : Int) < ((valueF l).length : Int)) = true := decide_eq_true (by omega)
        obtain ⟨n1, n2⟩ := @cntTo_in l (valueF l) j
        have n3 : (j : Int) * (l.length : Int) ≤ 60 * 60 := Int.mul_le_mul (by omega) (by omega) (by omega) (by omega)
        have n4 := ofF_len l ((valueF l).getD (j : Int).toNat default).1
        have n5 : cntTo l (valueF l) (j + 1) = cntTo l (valueF l) j + ((ofF l ((valueF l).getD (j : Int).toNat default).1).length : Int) := by rw [cntTo, Int.toNat_natCast]
        as_aux_lemma =>
          repeat' (first
              | refine rnC ?_
              | refine rnSB ?_
              | refine rnG ?_
              | refine rnU ?_
              | ((fail_if_success (refine rnKn ?_)); refine rnP ?_ ?_ <;> (intro hq; try (have hq' := hq; simp only [hqs] at hq')))
              | refine rkC ?_
              | refine rkSB ?_
              | refine rkF ?_
              | refine rkU ?_
              | ((fail_if_success (refine rkKn ?_)); refine rkP ?_ ?_ <;> (intro hq; try (have hq' := hq; simp only [hqs] at hq')))
              | refine stp ?_
              | refine aws_draws [] mixed (by kernel_rfl) ?_
              | refine ifT ?_
              | refine ifF ?_
              | (refine ifQ ?_ ?_ <;> (try (intro hn)))
              | (refine ifB ?_ ?_ <;> (intro hq; try (have hq' := hq; simp only [hqs] at hq'))))
          refine ⟨j + 1, _, by omega, by omega, .refl, ?_⟩
          rw [n5]
          exact frA
      · have q5 : decide ((j : Int) < ((valueF l).length : Int)) = false := decide_eq_false (by omega)
        obtain rfl : j = (valueF l).length := by omega
        have q6 : decide (cntTo l (valueF l) (valueF l).length = (l.length : Int)) = true := decide_eq_true v4
        by_cases hk : 0 ≤ k ∧ k < l.length
        · have d3 : decide (k < 0) = false := decide_eq_false (by omega)
          have d4 : decide ((l.length : Int) ≤ k) = false := decide_eq_false (by omega)
          obtain ⟨m, hm⟩ : ∃ m, m = ([] ++ l.drop k.toNat) ++ l.take k.toNat := ⟨_, rfl⟩
          have hp : m.Perm l := by rw [hm, List.nil_append]; exact turn_perm _
          have hml : m.length ≤ 1000000000 := by rw [hp.length_eq]; omega
          have hmb : ∀ e ∈ m, QB e := fun e he => hb e (hp.mem_iff.1 he)
          have hVm : (valueF m).length ≤ 1000000000 := by rw [valueF_perm hp]; omega
          have hVl : (valueF l).length ≤ 1000000000 := by omega
          have q7 : decide (valueF m = valueF l) = true := decide_eq_true (valueF_perm hp)
          repeat' (first
              | refine rnC ?_
              | refine rnSB ?_
              | refine rnG ?_
              | refine rnU ?_
              | ((fail_if_success (refine rnKn ?_)); refine rnP ?_ ?_ <;> (intro hq; try (have hq' := hq; simp only [hqs] at hq')))
              | refine rkC ?_
              | refine rkSB ?_
              | refine rkF ?_
              | refine rkU ?_
              | ((fail_if_success (refine rkKn ?_)); refine rkP ?_ ?_ <;> (intro hq; try (have hq' := hq; simp only [hqs] at hq')))
              | refine stp ?_
              | refine ifT ?_
              | refine ifF ?_
              | (refine ifQ ?_ ?_ <;> (try (intro hn)))
              | (refine ifB ?_ ?_ <;> (intro hq; try (have hq' := hq; simp only [hqs] at hq'))))
          refine aws_draws [(0, 95), (5, 95), (10, 95), (12, 11), (13, 11)] mixed (by kernel_rfl) ?_
          repeat' (first
              | refine rk_nil ?_
              | refine rkC ?_
              | refine rkSB ?_
              | refine rkF ?_
              | refine rkU ?_
              | ((fail_if_success (refine rkKn ?_)); refine rkP ?_ ?_ <;> (intro hq; try (have hq' := hq; simp only [hqs] at hq'))))
          refine aws_says (says_frz_at (p := 11) (o := 95) (k := 8) (ds := [.p (.k .u64 0), .p (.k .u64 0), .p (.k .u64 0), .p (.k .u64 0), .p (.k .u64 0), .p (.k .u64 0), .p (.k .u64 0), .p (.k .u64 0), .p (.sl 4 ((([] ++ l.drop k.toNat) ++ l.take k.toNat).map eR) false)]) rfl rfl rfl rfl rfl (by simp) (by decide)) ?_
          rw [← hm]
          as_aux_lemma =>
            repeat' (first
                | refine rnC ?_
                | refine rnSB ?_
                | refine rnG ?_
                | refine rnU ?_
                | ((fail_if_success (refine rnKn ?_)); refine rnP ?_ ?_ <;> (intro hq; try (have hq' := hq; simp only [hqs] at hq')))
                | refine rkC ?_
                | refine rkSB ?_
                | refine rkF ?_
                | refine rkU ?_
                | ((fail_if_success (refine rkKn ?_)); refine rkP ?_ ?_ <;> (intro hq; try (have hq' := hq; simp only [hqs] at hq')))
                | refine stp ?_
                | refine aws_draws [] mixed (by kernel_rfl) ?_
                | refine ifT ?_
                | refine ifF ?_
                | (refine ifQ ?_ ?_ <;> (try (intro hn)))
                | (refine ifB ?_ ?_ <;> (intro hq; try (have hq' := hq; simp only [hqs] at hq'))))
            exact rt1 rfl rfl finS_p (rb q7.symm)
        · by_cases hk0 : k < 0
          · have d3 : decide (k < 0) = true := decide_eq_true hk0
            as_aux_lemma =>
              repeat' (first
                  | refine rnC ?_
                  | refine rnSB ?_
                  | refine rnG ?_
                  | refine rnU ?_
                  | ((fail_if_success (refine rnKn ?_)); refine rnP ?_ ?_ <;> (intro hq; try (have hq' := hq; simp only [hqs] at hq')))
                  | refine rkC ?_
                  | refine rkSB ?_
                  | refine rkF ?_
                  | refine rkU ?_
                  | ((fail_if_success (refine rkKn ?_)); refine rkP ?_ ?_ <;> (intro hq; try (have hq' := hq; simp only [hqs] at hq')))
                  | refine stp ?_
                  | refine aws_draws [] mixed (by kernel_rfl) ?_
                  | refine ifT ?_
                  | refine ifF ?_
                  | (refine ifQ ?_ ?_ <;> (try (intro hn)))
                  | (refine ifB ?_ ?_ <;> (intro hq; try (have hq' := hq; simp only [hqs] at hq'))))
              exact rt1 rfl rfl finS_p (rb q6.symm)
          · have d3 : decide (k < 0) = false := decide_eq_false hk0
            have d4 : decide ((l.length : Int) ≤ k) = true := decide_eq_true (by omega)
            as_aux_lemma =>
              repeat' (first
                  | refine rnC ?_
                  | refine rnSB ?_
                  | refine rnG ?_
                  | refine rnU ?_
                  | ((fail_if_success (refine rnKn ?_)); refine rnP ?_ ?_ <;> (intro hq; try (have hq' := hq; simp only [hqs] at hq')))
                  | refine rkC ?_
                  | refine rkSB ?_
                  | refine rkF ?_
                  | refine rkU ?_
                  | ((fail_if_success (refine rkKn ?_)); refine rkP ?_ ?_ <;> (intro hq; try (have hq' := hq; simp only [hqs] at hq')))
                  | refine stp ?_
                  | refine aws_draws [] mixed (by kernel_rfl) ?_
                  | refine ifT ?_
                  | refine ifF ?_
                  | (refine ifQ ?_ ?_ <;> (try (intro hn)))
                  | (refine ifB ?_ ?_ <;> (intro hq; try (have hq' := hq; simp only [hqs] at hq'))))
              exact rt1 rfl rfl finS_p (rb q6.symm)
end Go.Proofs.Ytacofbbclmbbeaa.Ca
