/- joins, the laws: JoinMany -/
import Derived.Test.YtpmobjnaiaogbaaCj5
import Derived.Test.YtpmobjnaiaogbaaCb4
namespace Go.Proofs.Ytpmobjnaiaogbaa.Ca
open Go Go.RowKit Go.Aw Go.Aw.Cart Go.Aw.Ord Go.Sort
set_option linter.unusedVariables false
set_option linter.unusedSimpArgs false
set_option maxRecDepth 8000
set_option maxHeartbeats 4000000
def vA : List Int := [400, 0, 0, 0, 0, 0, 0, 0]
def vB : List Int := [0, 400, 0, 0, 0, 0, 0, 0]
theorem many_two {n m : Nat} (hn : n ≤ 400) (hm : m ≤ 400) : twoF (vA, manyL 1 n) (vB, manyL 2 m) = if 400 < n + m then ((zeroV, []), 5) else ((maxV vA vB, sortE (bothF (vA, manyL 1 n) (vB, manyL 2 m))), 0) := by
  have ra : rightF vA (manyL 1 n) = true := ok_iff.2 (many_ok hn (by omega) (by show (n : Int) ≤ 400; omega))
  have rb : rightF vB (manyL 2 m) = true := ok_iff.2 (many_ok hm (by omega) (by show (m : Int) ≤ 400; omega))
  have hc : clashF (vA, manyL 1 n) (vB, manyL 2 m) = false := clash_of fun e he f hf hd => by
    obtain ⟨k, hk, rfl⟩ := many_mem.1 he
    obtain ⟨j, hj, rfl⟩ := many_mem.1 hf
    have : (1 : Int) = 2 := congrArg Prod.fst hd
    omega
  have h1 : ∀ e ∈ manyL 1 n, hasF vB (dotE e) = false := fun e he => by
    obtain ⟨k, hk, rfl⟩ := many_mem.1 he
    unfold hasF
    rw [show getF vB (dotE (1, 1, (k : Int) + 1, 1)).1 = 0 from rfl, decide_eq_false (by show ¬ (k : Int) + 1 ≤ 0; omega), Bool.and_false]
  have h2 : ∀ e ∈ manyL 2 m, hasF vA (dotE e) = false := fun e he => by
    obtain ⟨k, hk, rfl⟩ := many_mem.1 he
    unfold hasF
    rw [show getF vA (dotE (1, 2, (k : Int) + 1, 1)).1 = 0 from rfl, decide_eq_false (by show ¬ (k : Int) + 1 ≤ 0; omega), Bool.and_false]
  have hl : (bothF (vA, manyL 1 n) (vB, manyL 2 m)).length = n + m := by
    unfold bothF staysF
    rw [List.length_append, List.filter_eq_self.2 (fun e he => by simp [h1 e he]), List.filter_eq_self.2 (fun e he => by simp [h2 e he]), many_len, many_len]
  unfold twoF
  rw [if_neg (by simp [ra, rb]), if_neg (by simp [hc]), hl]
theorem many_both {n m : Nat} (hn : n ≤ 400) (hm : m ≤ 400) (h : ¬ 400 < n + m) : (sortE (bothF (vA, manyL 1 n) (vB, manyL 2 m))).length = n + m := by
  have h1 : ∀ e ∈ manyL 1 n, hasF vB (dotE e) = false := fun e he => by
    obtain ⟨k, hk, rfl⟩ := many_mem.1 he
    unfold hasF
    rw [show getF vB (dotE (1, 1, (k : Int) + 1, 1)).1 = 0 from rfl, decide_eq_false (by show ¬ (k : Int) + 1 ≤ 0; omega), Bool.and_false]
  have h2 : ∀ e ∈ manyL 2 m, hasF vA (dotE e) = false := fun e he => by
    obtain ⟨k, hk, rfl⟩ := many_mem.1 he
    unfold hasF
    rw [show getF vA (dotE (1, 2, (k : Int) + 1, 1)).1 = 0 from rfl, decide_eq_false (by show ¬ (k : Int) + 1 ≤ 0; omega), Bool.and_false]
  rw [sortE_len]
  unfold bothF staysF
  rw [List.length_append, List.filter_eq_self.2 (fun e he => by simp [h1 e he]), List.filter_eq_self.2 (fun e he => by simp [h2 e he]), many_len, many_len]
namespace J8
theorem lopC {C : Ctx} {o : Oper} {σ : St} {e : Eff} {ro : Nat → Bool} (h : LOp C o σ e ro := by
    first
      | (apply lop_ap_ent; (focus rfl); (focus exact inferInstance); (focus exact inferInstance); (focus exact inferInstance); (focus rfl); (focus rfl); (focus rfl); (focus rfl); (focus rfl); (focus rfl); (focus first | (simp only [maxLen, List.length_append, List.length_cons, List.length_nil, List.length_take, List.length_drop, List.length_map]; omega) | omega); (focus first | (simp only [maxLen, List.length_append, List.length_cons, List.length_nil, List.length_take, List.length_drop, List.length_map]; omega) | omega); (focus rfl))
      | (apply lop_bst4; (focus rfl); (focus exact inferInstance); (focus exact inferInstance); (focus exact inferInstance); (focus rfl); (focus rfl); (focus rfl))
      | exact lopV
      | (apply lop_call1; (focus rfl); (focus exact inferInstance); (focus exact lk_cart rfl); (focus exact inferInstance); (focus exact inferInstance); (focus first | exact True.intro | assumption | rfl | omega | ((repeat' (first | assumption | refine And.intro ?_ ?_ | omega | rfl)); done) | fail); (focus rfl))
            | (apply lop_call2; (focus rfl); (focus exact inferInstance); (focus exact lk_cart rfl); (focus exact lk_cart rfl); (focus exact inferInstance); (focus exact inferInstance); (focus first | exact True.intro | assumption | rfl | omega | ((repeat' (first | assumption | refine And.intro ?_ ?_ | omega | rfl)); done) | fail); (focus rfl))
            | (apply lop_call2; (focus rfl); (focus exact inferInstance); (focus exact lk_cart rfl); (focus first | exact lk_m1 rfl | exact lk_m2 rfl | exact lk_m3 rfl | exact lk_o rfl | exact lk_a2 rfl | exact lk_a3 rfl | exact lk_a4 rfl | exact lk_a1 rfl | exact lk_a5 rfl | exact lk_a6 rfl | exact lk_a7 rfl | exact lk_a8 rfl | exact lk_a rfl); (focus exact inferInstance); (focus exact inferInstance); (focus first | exact True.intro | assumption | rfl | omega | ((repeat' (first | assumption | refine And.intro ?_ ?_ | omega | rfl)); done) | fail); (focus rfl))
      | fail) : LOp C o σ e ro := h
section steps
variable {C : Ctx} {ops : Array Oper} {o : Oper} {rest : List Oper} {K : St → Prop} {σ : St} {e : Eff} {ro : Nat → Bool} {W : List (Nat × Nat)} {i : Nat}
theorem rnC {d : Nat} (hk : RunN C ops rest K (e.app (some d) σ)) (hg : Guard ops σ o true := by first | exact gd_n rfl rfl | exact gd_t rfl rfl rfl rfl | exact gd_t rfl rfl rfl (by assumption)) (hd : o.dst = some d := by rfl) (h : LOp C o σ e ro := by exact lopC) : RunN C ops (o :: rest) K σ := rn_any hg hd h hk
theorem rkC {d : Nat} (hk : RunK C ops W (i + 1) rest K (e.app (some d) σ)) (hg : Guard ops σ o true := by first | exact gd_n rfl rfl | exact gd_t rfl rfl rfl rfl | exact gd_t rfl rfl rfl (by assumption)) (hd' : o.dst = some d := by rfl) (hd : dOk C o.dst = true := by rfl) (h : LOp C o σ e ro := by exact lopC)
    (hro : ∀ x, ro x = true → okObj ops W i x = true := by first | exact fun _ => ro_none | exact ro_one rfl | exact ro_one (by kernel_rfl) | exact ro_kIn (by decide)) (hob : ∀ p ∈ e.obj, (i, p.1) ∈ W := by first | exact ob_none | exact ob_one (by decide) | decide) : RunK C ops W i (o :: rest) K σ := rk_wr hg hd' hd h hro hob hk
end steps
end J8
open J8
theorem joinMany_w (n m : Nat) (hn : n < 65536) (hm : m < 65536) : PCall Try.prog 5 [.p (.k .u16 (n : Int)), .p (.k .u16 (m : Int))] (.p (.b true)) := by
  refine pcall_of Try.func5 rfl (fun w0 F S0 M0 => ?_)
  by_cases hg : 400 < n
  · have d1 : decide (400 < (n : Int)) = true := decide_eq_true (by omega)
    as_aux_lemma =>
      repeat' (first
          | refine rnC ?_
          | refine rnSB ?_
          | refine rnG ?_
          | refine rnU ?_
          | ((fail_if_success (refine rnKn ?_)); refine rnP ?_ ?_ <;> (intro hq; try (have hq' := hq; simp only [hqs] at hq')))
          | refine rkC ?_
          | refine rkSB ?_
          | refine rkF ?_
          | refine rkU ?_
          | ((fail_if_success (refine rkKn ?_)); refine rkP ?_ ?_ <;> (intro hq; try (have hq' := hq; simp only [hqs] at hq')))
          | refine stp ?_
          | refine aws_draws [] mixed (by kernel_rfl) ?_
          | refine ifT ?_
          | refine ifF ?_
          | (refine ifQ ?_ ?_ <;> (try (intro hn)))
          | (refine ifB ?_ ?_ <;> (intro hq; try (have hq' := hq; simp only [hqs] at hq'))))
      exact rt1 rfl rfl finS_p rfl
  · have d1 : decide (400 < (n : Int)) = false := decide_eq_false (by omega)
    by_cases hg2 : 400 < m
    · have d2 : decide (400 < (m : Int)) = true := decide_eq_true (by omega)
      as_aux_lemma =>
        repeat' (first
            | refine rnC ?_
            | refine rnSB ?_
            | refine rnG ?_
            | refine rnU ?_
            | ((fail_if_success (refine rnKn ?_)); refine rnP ?_ ?_ <;> (intro hq; try (have hq' := hq; simp only [hqs] at hq')))
            | refine rkC ?_
            | refine rkSB ?_
            | refine rkF ?_
            | refine rkU ?_
            | ((fail_if_success (refine rkKn ?_)); refine rkP ?_ ?_ <;> (intro hq; try (have hq' := hq; simp only [hqs] at hq')))
            | refine stp ?_
            | refine aws_draws [] mixed (by kernel_rfl) ?_
            | refine ifT ?_
            | refine ifF ?_
            | (refine ifQ ?_ ?_ <;> (try (intro hn)))
            | (refine ifB ?_ ?_ <;> (intro hq; try (have hq' := hq; simp only [hqs] at hq'))))
        exact rt1 rfl rfl finS_p rfl
    · have d2 : decide (400 < (m : Int)) = false := decide_eq_false (by omega)
      repeat' (first
          | refine rnC ?_
          | refine rnSB ?_
          | refine rnG ?_
          | refine rnU ?_
          | ((fail_if_success (refine rnKn ?_)); refine rnP ?_ ?_ <;> (intro hq; try (have hq' := hq; simp only [hqs] at hq')))
          | refine rkC ?_
          | refine rkSB ?_
          | refine rkF ?_
          | refine rkU ?_
          | ((fail_if_success (refine rkKn ?_)); refine rkP ?_ ?_ <;> (intro hq; try (have hq' := hq; simp only [hqs] at hq')))
          | refine stp ?_
          | refine aws_draws [] mixed (by kernel_rfl) ?_
          | refine ifT ?_
          | refine ifF ?_
          | (refine ifQ ?_ ?_ <;> (try (intro hn)))
          | (refine ifB ?_ ?_ <;> (intro hq; try (have hq' := hq; simp only [hqs] at hq'))))
      refine aws_says (says_nil_at (p := 5) (o := 900) (ty := 48) (es := 4) (k := 8) rfl rfl rfl rfl (by decide) (by decide)) ?_
      refine aws_says (says_nil_at (p := 6) (o := 901) (ty := 48) (es := 4) (k := 8) rfl rfl rfl rfl (by decide) (by decide)) ?_
      refine aws_loopS [7, 22, 23, 24, 25, 26, 27, 28, 29, 30, 31, 32, 33, 34, 35, 36] [5, 900] (fun (x : Nat × List Ent) => [(7, .p (.i x.1))]) (fun x => [(5, (1, some (.box 27 [.p (.k .u64 400), .p (.k .u64 0), .p (.k .u64 0), .p (.k .u64 0), .p (.k .u64 0), .p (.k .u64 0), .p (.k .u64 0), .p (.k .u64 0), .osl 900 x.1 4 0 x.2.length]))), (900, (x.1 + 1, some (.buf 48 4 (x.2.map eR))))])
        (fun x => x.1 ≤ n ∧ x.2 = manyL 1 x.1) (fun x => n - x.1) (0, []) ⟨Nat.zero_le _, rfl⟩ (by exact knA) (by exact knA) ?_
      rintro ⟨i, p⟩ β γ ⟨hi, hp⟩
      simp only at hi hp
      dsimp only
      have hpl : p.length = i := by rw [hp]; exact many_len 1 i
      by_cases hil : i < n
      · have q0 : decide ((i : Int) < (n : Int)) = true := decide_eq_true (by omega)
        as_aux_lemma =>
          repeat' (first
              | refine rnC ?_
              | refine rnSB ?_
              | refine rnG ?_
              | refine rnU ?_
              | ((fail_if_success (refine rnKn ?_)); refine rnP ?_ ?_ <;> (intro hq; try (have hq' := hq; simp only [hqs] at hq')))
              | refine rkC ?_
              | refine rkSB ?_
              | refine rkF ?_
              | refine rkU ?_
              | ((fail_if_success (refine rkKn ?_)); refine rkP ?_ ?_ <;> (intro hq; try (have hq' := hq; simp only [hqs] at hq')))
              | refine stp ?_
              | refine aws_draws [] mixed (by kernel_rfl) ?_
              | refine ifT ?_
              | refine ifF ?_
              | (refine ifQ ?_ ?_ <;> (try (intro hn)))
              | (refine ifB ?_ ?_ <;> (intro hq; try (have hq' := hq; simp only [hqs] at hq'))))
          refine ⟨(i + 1, p ++ [(1, 1, (i : Int) + 1, 1)]), _, by dsimp only; omega, ⟨by dsimp only; omega, ?_⟩, .refl, by exact frA⟩
          dsimp only
          rw [hp, manyL]
      · have q0 : decide ((i : Int) < (n : Int)) = false := decide_eq_false (by omega)
        obtain rfl : i = n := by omega
        refine aws_says (says_frz_at (p := 5) (o := 900) (k := 8) (ds := [.p (.k .u64 400), .p (.k .u64 0), .p (.k .u64 0), .p (.k .u64 0), .p (.k .u64 0), .p (.k .u64 0), .p (.k .u64 0), .p (.k .u64 0), .p (.sl 4 (p.map eR) false)]) rfl rfl rfl rfl rfl (by simp) (by decide)) ?_
        repeat' (first
            | refine rnC ?_
            | refine rnSB ?_
            | refine rnG ?_
            | refine rnU ?_
            | ((fail_if_success (refine rnKn ?_)); refine rnP ?_ ?_ <;> (intro hq; try (have hq' := hq; simp only [hqs] at hq')))
            | refine rkC ?_
            | refine rkSB ?_
            | refine rkF ?_
            | refine rkU ?_
            | ((fail_if_success (refine rkKn ?_)); refine rkP ?_ ?_ <;> (intro hq; try (have hq' := hq; simp only [hqs] at hq')))
            | refine stp ?_
            | refine aws_draws [] mixed (by kernel_rfl) ?_
            | refine ifT ?_
            | refine ifF ?_
            | (refine ifQ ?_ ?_ <;> (try (intro hn)))
            | (refine ifB ?_ ?_ <;> (intro hq; try (have hq' := hq; simp only [hqs] at hq'))))
        refine aws_loopS [8, 37, 38, 39, 40, 41, 42, 43, 44, 45, 46, 47, 48, 49, 50, 51] [6, 901] (fun (x : Nat × List Ent) => [(8, .p (.i x.1))]) (fun x => [(6, (1, some (.box 27 [.p (.k .u64 0), .p (.k .u64 400), .p (.k .u64 0), .p (.k .u64 0), .p (.k .u64 0), .p (.k .u64 0), .p (.k .u64 0), .p (.k .u64 0), .osl 901 x.1 4 0 x.2.length]))), (901, (x.1 + 1, some (.buf 48 4 (x.2.map eR))))])
          (fun x => x.1 ≤ m ∧ x.2 = manyL 2 x.1) (fun x => m - x.1) (0, []) ⟨Nat.zero_le _, rfl⟩ (by exact knA) (by exact knA) ?_
        rintro ⟨j, q⟩ β γ ⟨hj, hq⟩
        simp only at hj hq
        dsimp only
        have hql : q.length = j := by rw [hq]; exact many_len 2 j
        by_cases hjl : j < m
        · have q1 : decide ((j : Int) < (m : Int)) = true := decide_eq_true (by omega)
          as_aux_lemma =>
            repeat' (first
                | refine rnC ?_
                | refine rnSB ?_
                | refine rnG ?_
                | refine rnU ?_
                | ((fail_if_success (refine rnKn ?_)); refine rnP ?_ ?_ <;> (intro hq; try (have hq' := hq; simp only [hqs] at hq')))
                | refine rkC ?_
                | refine rkSB ?_
                | refine rkF ?_
                | refine rkU ?_
                | ((fail_if_success (refine rkKn ?_)); refine rkP ?_ ?_ <;> (intro hq; try (have hq' := hq; simp only [hqs] at hq')))
                | refine stp ?_
                | refine aws_draws [] mixed (by kernel_rfl) ?_
                | refine ifT ?_
                | refine ifF ?_
                | (refine ifQ ?_ ?_ <;> (try (intro hn)))
                | (refine ifB ?_ ?_ <;> (intro hq; try (have hq' := hq; simp only [hqs] at hq'))))
            refine ⟨(j + 1, q ++ [(1, 2, (j : Int) + 1, 1)]), _, by dsimp only; omega, ⟨by dsimp only; omega, ?_⟩, .refl, by exact frA⟩
            dsimp only
            rw [hq, manyL]
        · have q1 : decide ((j : Int) < (m : Int)) = false := decide_eq_false (by omega)
          obtain rfl : j = m := by omega
          have hp4 : p.length ≤ 100000000 := by omega
          have hq4 : q.length ≤ 100000000 := by omega
          have ct := two_w vA vB p q false false rfl rfl (by decide) hp4 hq4
          rw [hp, hq, many_two (n := i) (m := j) (by omega) (by omega), ← hp, ← hq] at ct
          refine aws_says (says_frz_at (p := 6) (o := 901) (k := 8) (ds := [.p (.k .u64 0), .p (.k .u64 400), .p (.k .u64 0), .p (.k .u64 0), .p (.k .u64 0), .p (.k .u64 0), .p (.k .u64 0), .p (.k .u64 0), .p (.sl 4 (q.map eR) false)]) rfl rfl rfl rfl rfl (by simp) (by decide)) ?_
          by_cases hs : 400 < i + j
          · have d3 : decide (400 < (i : Int) + (j : Int)) = true := decide_eq_true (by omega)
            rw [if_pos hs] at ct
            haveI : PC Try.prog 23 [.a [.p (.k .u64 400), .p (.k .u64 0), .p (.k .u64 0), .p (.k .u64 0), .p (.k .u64 0), .p (.k .u64 0), .p (.k .u64 0), .p (.k .u64 0), .p (.sl 4 (p.map eR) false)], .a [.p (.k .u64 0), .p (.k .u64 400), .p (.k .u64 0), .p (.k .u64 0), .p (.k .u64 0), .p (.k .u64 0), .p (.k .u64 0), .p (.k .u64 0), .p (.sl 4 (q.map eR) false)]] True (.tup [.agg (cL zeroV [] false), .one (.p (.i 5))]) := ⟨fun _ => ct⟩
            clear ct
            as_aux_lemma =>
              repeat' (first
                  | refine rnC ?_
                  | refine rnSB ?_
                  | refine rnG ?_
                  | refine rnU ?_
                  | ((fail_if_success (refine rnKn ?_)); refine rnP ?_ ?_ <;> (intro hq; try (have hq' := hq; simp only [hqs] at hq')))
                  | refine rkC ?_
                  | refine rkSB ?_
                  | refine rkF ?_
                  | refine rkU ?_
                  | ((fail_if_success (refine rkKn ?_)); refine rkP ?_ ?_ <;> (intro hq; try (have hq' := hq; simp only [hqs] at hq')))
                  | refine stp ?_
                  | refine aws_draws [] mixed (by kernel_rfl) ?_
                  | refine ifT ?_
                  | refine ifF ?_
                  | (refine ifQ ?_ ?_ <;> (try (intro hn)))
                  | (refine ifB ?_ ?_ <;> (intro hq; try (have hq' := hq; simp only [hqs] at hq'))))
              exact rt1 rfl rfl finS_p rfl
          · have d3 : decide (400 < (i : Int) + (j : Int)) = false := decide_eq_false (by omega)
            rw [if_neg hs] at ct
            have hb := many_both (n := i) (m := j) (by omega) (by omega) hs
            rw [← hp, ← hq] at hb
            generalize sortE (bothF (vA, p) (vB, q)) = z at ct hb
            have d4 : decide ((z.length : Int) = (i : Int) + (j : Int)) = true := decide_eq_true (by omega)
            haveI : PC Try.prog 23 [.a [.p (.k .u64 400), .p (.k .u64 0), .p (.k .u64 0), .p (.k .u64 0), .p (.k .u64 0), .p (.k .u64 0), .p (.k .u64 0), .p (.k .u64 0), .p (.sl 4 (p.map eR) false)], .a [.p (.k .u64 0), .p (.k .u64 400), .p (.k .u64 0), .p (.k .u64 0), .p (.k .u64 0), .p (.k .u64 0), .p (.k .u64 0), .p (.k .u64 0), .p (.sl 4 (q.map eR) false)]] True (.tup [.agg (cL (maxV vA vB) z false), .one (.p (.i 0))]) := ⟨fun _ => ct⟩
            clear ct
            as_aux_lemma =>
              repeat' (first
                  | refine rnC ?_
                  | refine rnSB ?_
                  | refine rnG ?_
                  | refine rnU ?_
                  | ((fail_if_success (refine rnKn ?_)); refine rnP ?_ ?_ <;> (intro hq; try (have hq' := hq; simp only [hqs] at hq')))
                  | refine rkC ?_
                  | refine rkSB ?_
                  | refine rkF ?_
                  | refine rkU ?_
                  | ((fail_if_success (refine rkKn ?_)); refine rkP ?_ ?_ <;> (intro hq; try (have hq' := hq; simp only [hqs] at hq')))
                  | refine stp ?_
                  | refine aws_draws [] mixed (by kernel_rfl) ?_
                  | refine ifT ?_
                  | refine ifF ?_
                  | (refine ifQ ?_ ?_ <;> (try (intro hn)))
                  | (refine ifB ?_ ?_ <;> (intro hq; try (have hq' := hq; simp only [hqs] at hq'))))
              exact rt1 rfl rfl finS_p (rb d4.symm)
end Go.Proofs.Ytpmobjnaiaogbaa.Ca
