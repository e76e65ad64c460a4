/- the reference, chapters 03 and 07: the next dot, vectors with a dot; ops, which may be, which entries stay; ops and events as the reference's -/
import Derived.Test.YtpmobjnaiaogbaaGreatCr9
import Derived.Test.YtpmobjnaiaogbaaGreatCe1
namespace Go.Proofs.YtpmobjnaiaogbaaGreat.Cq
open Go Go.RowKit Go.Aw Go.Aw.Cart Go.Aw.Ord Go.Proofs.YtpmobjnaiaogbaaGreat.Ca
set_option linter.unusedVariables false
set_option linter.unusedSimpArgs false
set_option maxRecDepth 8000
set_option maxHeartbeats 4000000
theorem lop_add64 {C : Ctx} {o : Oper} {σ : St} {t t' : TypeId} {x y : Operand} {m n r : Int} (ho : o.op = .binOp .add t x y t') (hx : σ.look x = .p (.v (.int .u64 m))) (hy : σ.look y = .p (.v (.int .u64 n))) (hr : (m + n) % 18446744073709551616 = r) (hd : dOk C o.dst = true) :
    LOp C o σ ⟨.p (.v (.int .u64 r)), []⟩ (fun _ => false) := by
  have := lop_add ho hx hy hd
  rwa [Ct.wrap64, hr] at this
namespace Q1
theorem lopC {C : Ctx} {o : Oper} {σ : St} {e : Eff} {ro : Nat → Bool} (h : LOp C o σ e ro := by
    first
      | (apply lop_add64; (focus rfl); (focus rfl); (focus rfl); (focus assumption); (focus rfl))
      | exact Go.Proofs.YtpmobjnaiaogbaaGreat.Cv.R9.lopC
      | (apply lop_build5; (focus rfl); (focus exact inferInstance); (focus exact inferInstance); (focus first | exact lk_m1 rfl | exact lk_m2 rfl | exact lk_m3 rfl | exact lk_o rfl | exact lk_a2 rfl | exact lk_a3 rfl | exact lk_a4 rfl | exact lk_a1 rfl | exact lk_a5 rfl | exact lk_a6 rfl | exact lk_a7 rfl | exact lk_a8 rfl | exact lk_a rfl); (focus first | exact lk_m1 rfl | exact lk_m2 rfl | exact lk_m3 rfl | exact lk_o rfl | exact lk_a2 rfl | exact lk_a3 rfl | exact lk_a4 rfl | exact lk_a1 rfl | exact lk_a5 rfl | exact lk_a6 rfl | exact lk_a7 rfl | exact lk_a8 rfl | exact lk_a rfl); (focus first | exact lk_m1 rfl | exact lk_m2 rfl | exact lk_m3 rfl | exact lk_o rfl | exact lk_a2 rfl | exact lk_a3 rfl | exact lk_a4 rfl | exact lk_a1 rfl | exact lk_a5 rfl | exact lk_a6 rfl | exact lk_a7 rfl | exact lk_a8 rfl | exact lk_a rfl); (focus first | exact lk_m1 rfl | exact lk_m2 rfl | exact lk_m3 rfl | exact lk_o rfl | exact lk_a2 rfl | exact lk_a3 rfl | exact lk_a4 rfl | exact lk_a1 rfl | exact lk_a5 rfl | exact lk_a6 rfl | exact lk_a7 rfl | exact lk_a8 rfl | exact lk_a rfl); (focus first | exact lk_m1 rfl | exact lk_m2 rfl | exact lk_m3 rfl | exact lk_o rfl | exact lk_a2 rfl | exact lk_a3 rfl | exact lk_a4 rfl | exact lk_a1 rfl | exact lk_a5 rfl | exact lk_a6 rfl | exact lk_a7 rfl | exact lk_a8 rfl | exact lk_a rfl); (focus decide); (focus first | exact sn2 rfl | exact sn3 rfl | exact sn4 rfl | exact sn1 rfl | exact sn5 rfl | exact sn6 rfl | exact sn7 rfl | exact sn8 rfl | exact sn9 rfl | exact sn10 rfl | exact sn11 rfl | exact sn12 rfl | rfl); (focus rfl))
      | (apply gField; (focus rfl); first | exact lop_fieldAddr_p rfl rfl (by decide) rfl rfl | exact lop_fieldAddr_bx rfl rfl (by decide) rfl rfl)
            | (apply lop_bsa; (focus rfl); (focus exact inferInstance); (focus exact inferInstance); (focus exact inferInstance); (focus repeat' (first | exact All2.nil | (apply bs_cons; (focus rfl); (focus rfl); (focus rfl)))); (focus rfl); (focus decide); (focus first | decide | omega); (focus rfl); (focus rfl))
            | (apply lop_mfa1; (focus rfl); (focus rfl); (focus rfl); (focus rfl); (focus rfl); (focus rfl))
            | (apply lop_mfa2; (focus rfl); (focus rfl); (focus rfl); (focus rfl); (focus rfl); (focus rfl); (focus rfl); (focus rfl); (focus rfl); (focus decide); (focus rfl))
            | (apply lop_mfa3; (focus rfl); (focus rfl); (focus rfl); (focus rfl); (focus rfl); (focus rfl); (focus rfl); (focus rfl); (focus rfl); (focus rfl); (focus rfl); (focus rfl); (focus rfl); (focus decide); (focus decide); (focus decide); (focus rfl))
            | (apply gLoad; (focus rfl); apply lop_ld_bxp; (focus rfl); (focus exact inferInstance); (focus rfl); (focus rfl); (focus rfl); (focus rfl); (focus rfl))
      | (apply lop_call2; (focus rfl); (focus exact inferInstance); (focus first | exact lk_v8 (by assumption) rfl | exact lk_v8l rfl); (focus first | exact lk_v8 (by assumption) rfl | exact lk_v8l rfl); (focus exact inferInstance); (focus exact inferInstance); (focus first | exact True.intro | assumption | rfl | omega | ((repeat' (first | assumption | refine And.intro ?_ ?_ | omega | rfl)); done) | fail); (focus rfl))
      | fail) : LOp C o σ e ro := h
section steps
variable {C : Ctx} {ops : Array Oper} {o : Oper} {rest : List Oper} {K : St → Prop} {σ : St} {e : Eff} {ro : Nat → Bool} {W : List (Nat × Nat)} {i : Nat}
theorem rnC {d : Nat} (hk : RunN C ops rest K (e.app (some d) σ)) (hg : Guard ops σ o true := by first | exact gd_n rfl rfl | exact gd_t rfl rfl rfl rfl | exact gd_t rfl rfl rfl (by assumption)) (hd : o.dst = some d := by rfl) (h : LOp C o σ e ro := by exact lopC) : RunN C ops (o :: rest) K σ := rn_any hg hd h hk
theorem rkC {d : Nat} (hk : RunK C ops W (i + 1) rest K (e.app (some d) σ)) (hg : Guard ops σ o true := by first | exact gd_n rfl rfl | exact gd_t rfl rfl rfl rfl | exact gd_t rfl rfl rfl (by assumption)) (hd' : o.dst = some d := by rfl) (hd : dOk C o.dst = true := by rfl) (h : LOp C o σ e ro := by exact lopC)
    (hro : ∀ x, ro x = true → okObj ops W i x = true := by first | exact fun _ => ro_none | exact ro_one rfl | exact ro_k1 rfl | exact ro_one (by kernel_rfl) | exact ro_k1 (by kernel_rfl) | exact ro_kIn (by decide)) (hob : ∀ p ∈ e.obj, (i, p.1) ∈ W := by first | exact ob_none | exact ob_one (by decide) | decide) : RunK C ops W i (o :: rest) K σ := rk_wr hg hd' hd h hro hob hk
end steps
end Q1
open Q1
theorem next3_r (v : List Int) (n : Int) (hv : v.length = 8) (hb : ∀ n ∈ v, 0 ≤ n ∧ n < 18446744073709551616) : PCall Tryz.prog 67 [vV v, .p (.i n)] (.tup [.agg (dL (nextF v n).1), .one (.p (.i (nextF v n).2))]) := by
  refine pcall_of Tryz.func67 rfl (fun w0 F S0 M0 => ?_)
  obtain ⟨g1, g2⟩ := getF_in hb n
  have nn : nodeF n = decide (1 ≤ n ∧ n ≤ 8) := rfl
  by_cases h1 : n < 1
  · have d1 : decide (n < 1) = true := decide_eq_true h1
    rw [show nextF v n = ((0, 0), 11) by unfold nextF; rw [if_pos (by rw [nn]; exact decide_eq_false (by omega))]]
    as_aux_lemma =>
      repeat' (first
          | refine rnC ?_
          | refine rnSB ?_
          | refine rnG ?_
          | refine rnU ?_
          | ((fail_if_success (refine rnKn ?_)); refine rnP ?_ ?_ <;> (intro hq; try (have hq' := hq; simp only [hqs] at hq')))
          | refine rkC ?_
          | refine rkSB ?_
          | refine rkF ?_
          | refine rkU ?_
          | ((fail_if_success (refine rkKn ?_)); refine rkP ?_ ?_ <;> (intro hq; try (have hq' := hq; simp only [hqs] at hq')))
          | refine stp ?_
          | refine aws_draws [] mixed (by kernel_rfl) ?_
          | refine ifT ?_
          | refine ifF ?_
          | (refine ifQ ?_ ?_ <;> (try (intro hn)))
          | (refine ifB ?_ ?_ <;> (intro hq; try (have hq' := hq; simp only [hqs] at hq'))))
      exact rc2 rfl rfl rfl rfl rfl rfl finL_p rfl finS_p rfl
  · have d1 : decide (n < 1) = false := decide_eq_false h1
    by_cases h2 : 8 < n
    · have d2 : decide (8 < n) = true := decide_eq_true h2
      rw [show nextF v n = ((0, 0), 11) by unfold nextF; rw [if_pos (by rw [nn]; exact decide_eq_false (by omega))]]
      as_aux_lemma =>
        repeat' (first
            | refine rnC ?_
            | refine rnSB ?_
            | refine rnG ?_
            | refine rnU ?_
            | ((fail_if_success (refine rnKn ?_)); refine rnP ?_ ?_ <;> (intro hq; try (have hq' := hq; simp only [hqs] at hq')))
            | refine rkC ?_
            | refine rkSB ?_
            | refine rkF ?_
            | refine rkU ?_
            | ((fail_if_success (refine rkKn ?_)); refine rkP ?_ ?_ <;> (intro hq; try (have hq' := hq; simp only [hqs] at hq')))
            | refine stp ?_
            | refine aws_draws [] mixed (by kernel_rfl) ?_
            | refine ifT ?_
            | refine ifF ?_
            | (refine ifQ ?_ ?_ <;> (try (intro hn)))
            | (refine ifB ?_ ?_ <;> (intro hq; try (have hq' := hq; simp only [hqs] at hq'))))
        exact rc2 rfl rfl rfl rfl rfl rfl finL_p rfl finS_p rfl
    · have d2 : decide (8 < n) = false := decide_eq_false h2
      have d3 : nodeF n = true := by rw [nn]; exact decide_eq_true (by omega)
      by_cases hm : getF v n = 18446744073709551615
      · have hr : (getF v n + 1) % 18446744073709551616 = 0 := by omega
        rw [show nextF v n = ((0, 0), 13) by unfold nextF; rw [if_neg (by rw [d3]; simp), if_pos hm]]
        as_aux_lemma =>
          repeat' (first
              | refine rnC ?_
              | refine rnSB ?_
              | refine rnG ?_
              | refine rnU ?_
              | ((fail_if_success (refine rnKn ?_)); refine rnP ?_ ?_ <;> (intro hq; try (have hq' := hq; simp only [hqs] at hq')))
              | refine rkC ?_
              | refine rkSB ?_
              | refine rkF ?_
              | refine rkU ?_
              | ((fail_if_success (refine rkKn ?_)); refine rkP ?_ ?_ <;> (intro hq; try (have hq' := hq; simp only [hqs] at hq')))
              | refine stp ?_
              | refine aws_draws [] mixed (by kernel_rfl) ?_
              | refine ifT ?_
              | refine ifF ?_
              | (refine ifQ ?_ ?_ <;> (try (intro hn)))
              | (refine ifB ?_ ?_ <;> (intro hq; try (have hq' := hq; simp only [hqs] at hq'))))
          exact rc2 rfl rfl rfl rfl rfl rfl finL_p rfl finS_p rfl
      · have hr : (getF v n + 1) % 18446744073709551616 = getF v n + 1 := by omega
        have d4 : decide (getF v n + 1 = 0) = false := decide_eq_false (by omega)
        rw [show nextF v n = ((n, getF v n + 1), 0) by unfold nextF; rw [if_neg (by rw [d3]; simp), if_neg hm]]
        as_aux_lemma =>
          repeat' (first
              | refine rnC ?_
              | refine rnSB ?_
              | refine rnG ?_
              | refine rnU ?_
              | ((fail_if_success (refine rnKn ?_)); refine rnP ?_ ?_ <;> (intro hq; try (have hq' := hq; simp only [hqs] at hq')))
              | refine rkC ?_
              | refine rkSB ?_
              | refine rkF ?_
              | refine rkU ?_
              | ((fail_if_success (refine rkKn ?_)); refine rkP ?_ ?_ <;> (intro hq; try (have hq' := hq; simp only [hqs] at hq')))
              | refine stp ?_
              | refine aws_draws [] mixed (by kernel_rfl) ?_
              | refine ifT ?_
              | refine ifF ?_
              | (refine ifQ ?_ ?_ <;> (try (intro hn)))
              | (refine ifB ?_ ?_ <;> (intro hq; try (have hq' := hq; simp only [hqs] at hq'))))
          exact rc2 rfl rfl rfl rfl rfl rfl finL_p rfl finS_p rfl
/-- a vector with a dot, as far as it has been looked at -/
def withTo (v : List Int) (d : Dot) (i : Nat) : List Int := if dotF d = true ∧ (d.1 - 1).toNat < i then withF v d else v
theorem withTo_len {v : List Int} {d : Dot} {i : Nat} : (withTo v d i).length = v.length := by
  unfold withTo; split
  · exact withF_len
  · rfl
theorem withTo_all {v : List Int} {d : Dot} (hv : v.length = 8) (h0 : ∀ n ∈ v, 0 ≤ n) : withTo v d 8 = withF v d := by
  unfold withTo
  by_cases hd : dotF d = true
  · have := of_decide_eq_true hd
    rw [if_pos ⟨hd, by omega⟩]
  · rw [if_neg (fun k => hd k.1)]
    unfold withF
    by_cases hn : nodeF d.1 = true
    · have h1 := of_decide_eq_true hn
      have h2 : ¬ 0 < d.2 := fun k => hd (decide_eq_true ⟨h1.1, h1.2, k⟩)
      rw [if_pos hn]
      have hi : (d.1 - 1).toNat < v.length := by omega
      have := h0 _ (List.getElem_mem hi)
      rw [getD_at hi, if_neg (by omega), List.set_getElem_self]
    · rw [if_neg hn]
theorem withTo_skip {v : List Int} {d : Dot} {i : Nat} (h : dotF d = true → (i : Int) + 1 ≠ d.1) : withTo v d (i + 1) = withTo v d i := by
  unfold withTo
  by_cases hd : dotF d = true
  · have h1 := of_decide_eq_true hd
    have h2 := h hd
    have e : (d.1 - 1).toNat < i + 1 ↔ (d.1 - 1).toNat < i := by omega
    simp only [hd, true_and, e]
  · simp [hd]
theorem withTo_at {v : List Int} {d : Dot} {i : Nat} (hd : dotF d = true) (hi : (i : Int) + 1 = d.1) (hv : i < v.length) : withTo v d (i + 1) = (withTo v d i).set i (if v.getD i default < d.2 then d.2 else v.getD i default) := by
  have h1 := of_decide_eq_true hd
  have e : (d.1 - 1).toNat = i := by omega
  have l1 : withTo v d (i + 1) = withF v d := by unfold withTo; rw [if_pos ⟨hd, by omega⟩]
  have l2 : withTo v d i = v := by unfold withTo; rw [if_neg (fun k => by omega)]
  have hn : nodeF d.1 = true := decide_eq_true ⟨h1.1, h1.2.1⟩
  rw [l1, l2]
  unfold withF
  rw [if_pos hn, e]
theorem with3_r (v : List Int) (d : Dot) (hv : v.length = 8) (h0 : ∀ n ∈ v, 0 ≤ n) : PCall Tryz.prog 68 [vV v, dV d] (.a (v8L (withF v d))) := by
  refine pcall_of Tryz.func68 rfl (fun w0 F S0 M0 => ?_)
  rw [← v8L_is (by rw [withF_len]; exact hv)]
  repeat' (first
      | refine rnC ?_
      | refine rnSB ?_
      | refine rnG ?_
      | refine rnU ?_
      | ((fail_if_success (refine rnKn ?_)); refine rnP ?_ ?_ <;> (intro hq; try (have hq' := hq; simp only [hqs] at hq')))
      | refine rkC ?_
      | refine rkSB ?_
      | refine rkF ?_
      | refine rkU ?_
      | ((fail_if_success (refine rkKn ?_)); refine rkP ?_ ?_ <;> (intro hq; try (have hq' := hq; simp only [hqs] at hq')))
      | refine stp ?_
      | refine ifT ?_
      | refine ifF ?_
      | (refine ifQ ?_ ?_ <;> (try (intro hn)))
      | (refine ifB ?_ ?_ <;> (intro hq; try (have hq' := hq; simp only [hqs] at hq'))))
  refine aws_loopS [6, 8, 9, 10, 11, 12, 13, 14, 15, 16, 17, 18, 19, 20, 21, 22, 23, 24, 25, 26, 27, 28, 29, 30, 31, 32] [5] (fun (x : Nat × List Int) => [(6, .p (.i x.1))]) (fun x => [(5, (1, some (.box 24 (x.2.map fun n => AC.p (.k .u64 n)))))])
    (fun x => x.1 ≤ 8 ∧ x.2 = withTo v d x.1) (fun x => 8 - x.1) (0, v) ⟨Nat.zero_le _, by simp [withTo]⟩ (by exact knA) (by exact knA) ?_
  rintro ⟨j, q⟩ β γ ⟨hj, hq⟩
  simp only at hj hq
  dsimp only
  have lq : q.length = 8 := by rw [hq, withTo_len]; exact hv
  by_cases hj8 : j < 8
  · have d2 : decide ((j : Int) < 8) = true := decide_eq_true (by omega)
    have ej : (j : Int).toNat = j := Int.toNat_natCast j
    cases hr : dotF d with
    | false =>
      have hs := withTo_skip (v := v) (d := d) (i := j) (fun k => by rw [hr] at k; cases k)
      as_aux_lemma =>
        repeat' (first
            | refine rnC ?_
            | refine rnSB ?_
            | refine rnG ?_
            | refine rnU ?_
            | ((fail_if_success (refine rnKn ?_)); refine rnP ?_ ?_ <;> (intro hq; try (have hq' := hq; simp only [hqs] at hq')))
            | refine rkC ?_
            | refine rkSB ?_
            | refine rkF ?_
            | refine rkU ?_
            | ((fail_if_success (refine rkKn ?_)); refine rkP ?_ ?_ <;> (intro hq; try (have hq' := hq; simp only [hqs] at hq')))
            | refine stp ?_
            | refine aws_draws [] mixed (by kernel_rfl) ?_
            | refine ifT ?_
            | refine ifF ?_
            | (refine ifQ ?_ ?_ <;> (try (intro hn)))
            | (refine ifB ?_ ?_ <;> (intro hq; try (have hq' := hq; simp only [hqs] at hq'))))
        exact ⟨(j + 1, q), _, by dsimp only; omega, ⟨by dsimp only; omega, by rw [hs]; exact hq⟩, .refl, by exact frA⟩
    | true =>
      by_cases hn : (j : Int) + 1 = d.1
      · have d3 : decide ((j : Int) + 1 = d.1) = true := decide_eq_true hn
        have hs := withTo_at (v := v) hr hn (by omega)
        rw [← hq] at hs
        by_cases hl : v.getD (j : Int).toNat default < d.2
        · have d4 : decide (v.getD (j : Int).toNat default < d.2) = true := decide_eq_true hl
          rw [ej] at hl
          rw [if_pos hl] at hs
          as_aux_lemma =>
            repeat' (first
                | refine rnC ?_
                | refine rnSB ?_
                | refine rnG ?_
                | refine rnU ?_
                | ((fail_if_success (refine rnKn ?_)); refine rnP ?_ ?_ <;> (intro hq; try (have hq' := hq; simp only [hqs] at hq')))
                | refine rkC ?_
                | refine rkSB ?_
                | refine rkF ?_
                | refine rkU ?_
                | ((fail_if_success (refine rkKn ?_)); refine rkP ?_ ?_ <;> (intro hq; try (have hq' := hq; simp only [hqs] at hq')))
                | refine stp ?_
                | refine aws_draws [] mixed (by kernel_rfl) ?_
                | refine ifT ?_
                | refine ifF ?_
                | (refine ifQ ?_ ?_ <;> (try (intro hn)))
                | (refine ifB ?_ ?_ <;> (intro hq; try (have hq' := hq; simp only [hqs] at hq'))))
            refine ⟨(j + 1, q.set (j : Int).toNat d.2), _, by dsimp only; omega, ⟨by dsimp only; omega, ?_⟩, .refl, by exact frA⟩
            dsimp only
            rw [hs, ej]
        · have d4 : decide (v.getD (j : Int).toNat default < d.2) = false := decide_eq_false hl
          rw [ej] at hl
          have hg : q.getD j default = v.getD j default := by
            rw [hq]
            unfold withTo
            have h1 := of_decide_eq_true hr
            rw [if_neg (by omega)]
          have hjq : j < q.length := by omega
          rw [if_neg hl, ← hg, getD_at hjq, List.set_getElem_self] at hs
          as_aux_lemma =>
            repeat' (first
                | refine rnC ?_
                | refine rnSB ?_
                | refine rnG ?_
                | refine rnU ?_
                | ((fail_if_success (refine rnKn ?_)); refine rnP ?_ ?_ <;> (intro hq; try (have hq' := hq; simp only [hqs] at hq')))
                | refine rkC ?_
                | refine rkSB ?_
                | refine rkF ?_
                | refine rkU ?_
                | ((fail_if_success (refine rkKn ?_)); refine rkP ?_ ?_ <;> (intro hq; try (have hq' := hq; simp only [hqs] at hq')))
                | refine stp ?_
                | refine aws_draws [] mixed (by kernel_rfl) ?_
                | refine ifT ?_
                | refine ifF ?_
                | (refine ifQ ?_ ?_ <;> (try (intro hn)))
                | (refine ifB ?_ ?_ <;> (intro hq; try (have hq' := hq; simp only [hqs] at hq'))))
            exact ⟨(j + 1, q), _, by dsimp only; omega, ⟨by dsimp only; omega, hs.symm⟩, .refl, by exact frA⟩
      · have d3 : decide ((j : Int) + 1 = d.1) = false := decide_eq_false hn
        have hs := withTo_skip (v := v) (d := d) (i := j) (fun _ => hn)
        as_aux_lemma =>
          repeat' (first
              | refine rnC ?_
              | refine rnSB ?_
              | refine rnG ?_
              | refine rnU ?_
              | ((fail_if_success (refine rnKn ?_)); refine rnP ?_ ?_ <;> (intro hq; try (have hq' := hq; simp only [hqs] at hq')))
              | refine rkC ?_
              | refine rkSB ?_
              | refine rkF ?_
              | refine rkU ?_
              | ((fail_if_success (refine rkKn ?_)); refine rkP ?_ ?_ <;> (intro hq; try (have hq' := hq; simp only [hqs] at hq')))
              | refine stp ?_
              | refine aws_draws [] mixed (by kernel_rfl) ?_
              | refine ifT ?_
              | refine ifF ?_
              | (refine ifQ ?_ ?_ <;> (try (intro hn)))
              | (refine ifB ?_ ?_ <;> (intro hq; try (have hq' := hq; simp only [hqs] at hq'))))
          exact ⟨(j + 1, q), _, by dsimp only; omega, ⟨by dsimp only; omega, by rw [hs]; exact hq⟩, .refl, by exact frA⟩
  · have d2 : decide ((j : Int) < 8) = false := decide_eq_false (by omega)
    obtain rfl : j = 8 := by omega
    rw [withTo_all hv h0] at hq
    rw [← hq]
    as_aux_lemma =>
      repeat' (first
          | refine rnC ?_
          | refine rnSB ?_
          | refine rnG ?_
          | refine rnU ?_
          | ((fail_if_success (refine rnKn ?_)); refine rnP ?_ ?_ <;> (intro hq; try (have hq' := hq; simp only [hqs] at hq')))
          | refine rkC ?_
          | refine rkSB ?_
          | refine rkF ?_
          | refine rkU ?_
          | ((fail_if_success (refine rkKn ?_)); refine rkP ?_ ?_ <;> (intro hq; try (have hq' := hq; simp only [hqs] at hq')))
          | refine stp ?_
          | refine ifT ?_
          | refine ifF ?_
          | (refine ifQ ?_ ?_ <;> (try (intro hn)))
          | (refine ifB ?_ ?_ <;> (intro hq; try (have hq' := hq; simp only [hqs] at hq'))))
      exact rc1 rfl rfl rfl rfl rfl (by first | exact lq | (rw [List.length_map]; exact lq)) finL_p rfl
instance with3_i {v : List Int} {d : Dot} : PC Tryz.prog 68 [vV v, dV d] (v.length = 8 ∧ ∀ n ∈ v, 0 ≤ n) (.a (v8L (withF v d))) := ⟨fun h => with3_r v d h.1 h.2⟩
end Go.Proofs.YtpmobjnaiaogbaaGreat.Cq
