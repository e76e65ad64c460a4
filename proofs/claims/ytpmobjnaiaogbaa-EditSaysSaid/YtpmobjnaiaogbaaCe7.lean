/- edits, the laws: EditSays -/
import Derived.Test.YtpmobjnaiaogbaaCe6
namespace Go.Proofs.Ytpmobjnaiaogbaa.Ca
open Go Go.RowKit Go.Aw Go.Aw.Cart Go.Aw.Ord Go.Sort
set_option linter.unusedVariables false
set_option linter.unusedSimpArgs false
set_option maxRecDepth 8000
set_option maxHeartbeats 4000000
/-- what the laws need of an op that was done -/
structure Done (c : Crt) (nd : Int) (o : Op3) (d : Crt) (x : Evt) : Prop where
  right : rightF d.1 d.2 = true
  cov : covF d.1 c.1 = true
  set : dRightF x.2.2.2.2 = true
  said : Said c nd o d x
  len : d.1.length = 8
  few : d.2.length ≤ 400
  qb : ∀ e ∈ d.2, QB e
  qc : ∀ e ∈ c.2, QB e
  off : x.2.2.2.2.length ≤ 2000
theorem Ok.qb {v : List Int} {l : List Ent} (h : Ok v l) : ∀ e ∈ l, QB e := fun e he => by
  have := of_decide_eq_true (h.ent e he)
  unfold QB; omega
theorem done_of {c : Crt} {nd : Int} {o : Op3} (hc : c.1.length = 8) (hb : ∀ n ∈ c.1, 0 ≤ n ∧ n < 18446744073709551616) (h : (doF c nd o).2 = 0) : Done c nd o (doF c nd o).1.1 (doF c nd o).1.2 := by
  have d := did h
  have k := d.okd hc hb
  have f := d.ok.few
  refine ⟨ok_iff.2 k, d.cov hc, ?_, d.said, d.len8 hc, k.few, k.qb, d.ok.qb, ?_⟩
  · rw [evt_off d]; exact off_set (by omega)
  · rw [evt_off d]
    have := off_len o (l := c.2) (by omega)
    omega
open E6
theorem editSays_w (v : List Int) (l : List Ent) (ex : Bool) (nd : Int) (o : Op3) (other : Int) (hv : v.length = 8) (hb : ∀ n ∈ v, 0 ≤ n ∧ n < 18446744073709551616) : PCall Try.prog 9 [cV v l ex, .p (.i nd), opV o, .p (.i other)] (.p (.b true)) := by
  refine pcall_of Try.func9 rfl (fun w0 F S0 M0 => ?_)
  by_cases hg : 60 < l.length
  · have d1 : decide (60 < (l.length : Int)) = true := decide_eq_true (by omega)
    as_aux_lemma =>
      repeat' (first
          | refine rnC ?_
          | refine rnSB ?_
          | refine rnG ?_
          | refine rnU ?_
          | ((fail_if_success (refine rnKn ?_)); refine rnP ?_ ?_ <;> (intro hq; try (have hq' := hq; simp only [hqs] at hq')))
          | refine rkC ?_
          | refine rkSB ?_
          | refine rkF ?_
          | refine rkU ?_
          | ((fail_if_success (refine rkKn ?_)); refine rkP ?_ ?_ <;> (intro hq; try (have hq' := hq; simp only [hqs] at hq')))
          | refine stp ?_
          | refine aws_draws [] mixed (by kernel_rfl) ?_
          | refine ifT ?_
          | refine ifF ?_
          | (refine ifQ ?_ ?_ <;> (try (intro hn)))
          | (refine ifB ?_ ?_ <;> (intro hq; try (have hq' := hq; simp only [hqs] at hq'))))
      exact rt1 rfl rfl finS_p rfl
  · have d1 : decide (60 < (l.length : Int)) = false := decide_eq_false (by omega)
    have hl2 : l.length ≤ 1000000000 := by omega
    have cd := do_w v l ex nd o hv hb (by omega)
    have DN := @done_of (v, l) nd o hv hb
    generalize doF (v, l) nd o = r at cd DN
    obtain ⟨⟨⟨dv, dl⟩, ⟨xk, xi, xq, xd, xo⟩⟩, e⟩ := r
    dsimp only at cd DN
    haveI : PC Try.prog 31 [cV v l ex, .p (.i nd), opV o] True (.tup [.agg (cL dv dl false), .agg (xL (xk, xi, xq, xd, xo)), .one (.p (.i e))]) := ⟨fun _ => cd⟩
    clear cd
    by_cases he : e = 0
    · have d2 : decide (e ≠ 0) = false := decide_eq_false fun q => q he
      obtain ⟨h1, h2, h3, h4, h5, h6, h7, h8, h9⟩ := DN he
      clear DN
      dsimp only at h1 h2 h3 h4 h5 h6 h7 h8 h9
      have t1 : (!rightF dv dl) = false := by rw [h1]; rfl
      have t2 : (!covF dv v) = false := by rw [h2]; rfl
      have t3 : (!dRightF xo) = false := by rw [h3]; rfl
      have hd2 : dl.length ≤ 1000000000 := by omega
      have ho2 : xo.length ≤ 1000000000 := by omega
      have ev := vEqV dv v h5 hv
      have f1 := ofF_len l other
      have f2 := ofF_len dl other
      have f3 := ofF_len l o.2.1
      have f4 := ofF_len dl o.2.1
      have s4 := h4.four
      have sO := h4.other other
      have s1 := h4.one
      have s2 := h4.two
      have s3 := h4.three
      dsimp only at s4 sO s1 s2 s3
      clear h4 h1 h2 h3
      by_cases k4 : o.1 = 4
      · have t4 : decide (o.1 = 4) = true := decide_eq_true k4
        obtain ⟨a1, a2⟩ := s4 k4
        have t5 : decide ((dl.length : Int) = 0) = true := decide_eq_true (by rw [a1]; rfl)
        rw [decide_eq_true a2] at ev
        as_aux_lemma =>
          repeat' (first
              | refine rnC ?_
              | refine rnSB ?_
              | refine rnG ?_
              | refine rnU ?_
              | ((fail_if_success (refine rnKn ?_)); refine rnP ?_ ?_ <;> (intro hq; try (have hq' := hq; simp only [hqs] at hq')))
              | refine rkC ?_
              | refine rkSB ?_
              | refine rkF ?_
              | refine rkU ?_
              | ((fail_if_success (refine rkKn ?_)); refine rkP ?_ ?_ <;> (intro hq; try (have hq' := hq; simp only [hqs] at hq')))
              | refine stp ?_
              | refine aws_draws [] mixed (by kernel_rfl) ?_
              | refine ifT ?_
              | refine ifF ?_
              | (refine ifQ ?_ ?_ <;> (try (intro hn)))
              | (refine ifB ?_ ?_ <;> (intro hq; try (have hq' := hq; simp only [hqs] at hq'))))
          exact rt1 rfl rfl finS_p (rb ev.symm)
      · have t4 : decide (o.1 = 4) = false := decide_eq_false k4
        have key : ∃ b1 : Bool, decide (other ≠ o.2.1) = b1 ∧ (b1 = true → decide (((ofF dl other).length : Int) ≠ ((ofF l other).length : Int)) = false ∧ (decide (0 < ((ofF l other).length : Int)) != decide (0 < ((ofF dl other).length : Int))) = false) := by
          refine ⟨_, rfl, fun q => ?_⟩
          have := sO k4 (of_decide_eq_true q)
          rw [this]; simp
        obtain ⟨b1, kb, kt⟩ := key
        cases b1 with
        | true =>
          obtain ⟨m1, m2⟩ := kt rfl
          repeat' (first
              | refine rnC ?_
              | refine rnSB ?_
              | refine rnG ?_
              | refine rnU ?_
              | refine rkC ?_
              | refine rkSB ?_
              | refine rkF ?_
              | refine rkU ?_
              | refine stp ?_
              | refine aws_draws [] mixed (by kernel_rfl) ?_
              | refine ifT ?_
              | refine ifF ?_
              | fail)
          by_cases k1 : o.1 = 1
          · have t6 : decide (o.1 = 1) = true := decide_eq_true k1
            obtain ⟨a1, a2⟩ := s1 k1
            have t7 : decide (((ofF dl o.2.1).length : Int) = ((ofF l o.2.1).length : Int) + 1) = true := decide_eq_true (by omega)
            have t8 : decide ((xo.length : Int) = 0) = true := decide_eq_true (by rw [a2]; rfl)
            as_aux_lemma =>
              repeat' (first
                  | refine rnC ?_
                  | refine rnSB ?_
                  | refine rnG ?_
                  | refine rnU ?_
                  | ((fail_if_success (refine rnKn ?_)); refine rnP ?_ ?_ <;> (intro hq; try (have hq' := hq; simp only [hqs] at hq')))
                  | refine rkC ?_
                  | refine rkSB ?_
                  | refine rkF ?_
                  | refine rkU ?_
                  | ((fail_if_success (refine rkKn ?_)); refine rkP ?_ ?_ <;> (intro hq; try (have hq' := hq; simp only [hqs] at hq')))
                  | refine stp ?_
                  | refine aws_draws [] mixed (by kernel_rfl) ?_
                  | refine ifT ?_
                  | refine ifF ?_
                  | (refine ifQ ?_ ?_ <;> (try (intro hn)))
                  | (refine ifB ?_ ?_ <;> (intro hq; try (have hq' := hq; simp only [hqs] at hq'))))
              exact rt1 rfl rfl finS_p (rb t8.symm)
          · have t6 : decide (o.1 = 1) = false := decide_eq_false k1
            by_cases k2 : o.1 = 2
            · have t7 : decide (o.1 = 2) = true := decide_eq_true k2
              obtain ⟨a1, a2, a3, a4⟩ := s2 k2
              have t8 : decide (0 < ((ofF dl o.2.1).length : Int)) = true := decide_eq_true (by omega)
              have t9 : decide (getQ dl o.2.1 = o.2.2) = true := decide_eq_true a2
              have t10 : decide (((ofF dl o.2.1).length : Int) = 1) = true := decide_eq_true (by omega)
              as_aux_lemma =>
                repeat' (first
                    | refine rnC ?_
                    | refine rnSB ?_
                    | refine rnG ?_
                    | refine rnU ?_
                    | ((fail_if_success (refine rnKn ?_)); refine rnP ?_ ?_ <;> (intro hq; try (have hq' := hq; simp only [hqs] at hq')))
                    | refine rkC ?_
                    | refine rkSB ?_
                    | refine rkF ?_
                    | refine rkU ?_
                    | ((fail_if_success (refine rkKn ?_)); refine rkP ?_ ?_ <;> (intro hq; try (have hq' := hq; simp only [hqs] at hq')))
                    | refine stp ?_
                    | refine aws_draws [] mixed (by kernel_rfl) ?_
                    | refine ifT ?_
                    | refine ifF ?_
                    | (refine ifQ ?_ ?_ <;> (try (intro hn)))
                    | (refine ifB ?_ ?_ <;> (intro hq; try (have hq' := hq; simp only [hqs] at hq'))))
                exact rt1 rfl rfl finS_p (rb t10.symm)
            · have t7 : decide (o.1 = 2) = false := decide_eq_false k2
              obtain ⟨a1, a2⟩ := s3 k1 k2 k4
              have t8 : (!decide (0 < ((ofF dl o.2.1).length : Int))) = true := by rw [decide_eq_false (by omega)]; rfl
              rw [decide_eq_true a2] at ev
              as_aux_lemma =>
                repeat' (first
                    | refine rnC ?_
                    | refine rnSB ?_
                    | refine rnG ?_
                    | refine rnU ?_
                    | ((fail_if_success (refine rnKn ?_)); refine rnP ?_ ?_ <;> (intro hq; try (have hq' := hq; simp only [hqs] at hq')))
                    | refine rkC ?_
                    | refine rkSB ?_
                    | refine rkF ?_
                    | refine rkU ?_
                    | ((fail_if_success (refine rkKn ?_)); refine rkP ?_ ?_ <;> (intro hq; try (have hq' := hq; simp only [hqs] at hq')))
                    | refine stp ?_
                    | refine aws_draws [] mixed (by kernel_rfl) ?_
                    | refine ifT ?_
                    | refine ifF ?_
                    | (refine ifQ ?_ ?_ <;> (try (intro hn)))
                    | (refine ifB ?_ ?_ <;> (intro hq; try (have hq' := hq; simp only [hqs] at hq'))))
                exact rt1 rfl rfl finS_p (rb ev.symm)
        | false =>
          repeat' (first
              | refine rnC ?_
              | refine rnSB ?_
              | refine rnG ?_
              | refine rnU ?_
              | refine rkC ?_
              | refine rkSB ?_
              | refine rkF ?_
              | refine rkU ?_
              | refine stp ?_
              | refine aws_draws [] mixed (by kernel_rfl) ?_
              | refine ifT ?_
              | refine ifF ?_
              | fail)
          by_cases k1 : o.1 = 1
          · have t6 : decide (o.1 = 1) = true := decide_eq_true k1
            obtain ⟨a1, a2⟩ := s1 k1
            have t7 : decide (((ofF dl o.2.1).length : Int) = ((ofF l o.2.1).length : Int) + 1) = true := decide_eq_true (by omega)
            have t8 : decide ((xo.length : Int) = 0) = true := decide_eq_true (by rw [a2]; rfl)
            as_aux_lemma =>
              repeat' (first
                  | refine rnC ?_
                  | refine rnSB ?_
                  | refine rnG ?_
                  | refine rnU ?_
                  | ((fail_if_success (refine rnKn ?_)); refine rnP ?_ ?_ <;> (intro hq; try (have hq' := hq; simp only [hqs] at hq')))
                  | refine rkC ?_
                  | refine rkSB ?_
                  | refine rkF ?_
                  | refine rkU ?_
                  | ((fail_if_success (refine rkKn ?_)); refine rkP ?_ ?_ <;> (intro hq; try (have hq' := hq; simp only [hqs] at hq')))
                  | refine stp ?_
                  | refine aws_draws [] mixed (by kernel_rfl) ?_
                  | refine ifT ?_
                  | refine ifF ?_
                  | (refine ifQ ?_ ?_ <;> (try (intro hn)))
                  | (refine ifB ?_ ?_ <;> (intro hq; try (have hq' := hq; simp only [hqs] at hq'))))
              exact rt1 rfl rfl finS_p (rb t8.symm)
          · have t6 : decide (o.1 = 1) = false := decide_eq_false k1
            by_cases k2 : o.1 = 2
            · have t7 : decide (o.1 = 2) = true := decide_eq_true k2
              obtain ⟨a1, a2, a3, a4⟩ := s2 k2
              have t8 : decide (0 < ((ofF dl o.2.1).length : Int)) = true := decide_eq_true (by omega)
              have t9 : decide (getQ dl o.2.1 = o.2.2) = true := decide_eq_true a2
              have t10 : decide (((ofF dl o.2.1).length : Int) = 1) = true := decide_eq_true (by omega)
              as_aux_lemma =>
                repeat' (first
                    | refine rnC ?_
                    | refine rnSB ?_
                    | refine rnG ?_
                    | refine rnU ?_
                    | ((fail_if_success (refine rnKn ?_)); refine rnP ?_ ?_ <;> (intro hq; try (have hq' := hq; simp only [hqs] at hq')))
                    | refine rkC ?_
                    | refine rkSB ?_
                    | refine rkF ?_
                    | refine rkU ?_
                    | ((fail_if_success (refine rkKn ?_)); refine rkP ?_ ?_ <;> (intro hq; try (have hq' := hq; simp only [hqs] at hq')))
                    | refine stp ?_
                    | refine aws_draws [] mixed (by kernel_rfl) ?_
                    | refine ifT ?_
                    | refine ifF ?_
                    | (refine ifQ ?_ ?_ <;> (try (intro hn)))
                    | (refine ifB ?_ ?_ <;> (intro hq; try (have hq' := hq; simp only [hqs] at hq'))))
                exact rt1 rfl rfl finS_p (rb t10.symm)
            · have t7 : decide (o.1 = 2) = false := decide_eq_false k2
              obtain ⟨a1, a2⟩ := s3 k1 k2 k4
              have t8 : (!decide (0 < ((ofF dl o.2.1).length : Int))) = true := by rw [decide_eq_false (by omega)]; rfl
              rw [decide_eq_true a2] at ev
              as_aux_lemma =>
                repeat' (first
                    | refine rnC ?_
                    | refine rnSB ?_
                    | refine rnG ?_
                    | refine rnU ?_
                    | ((fail_if_success (refine rnKn ?_)); refine rnP ?_ ?_ <;> (intro hq; try (have hq' := hq; simp only [hqs] at hq')))
                    | refine rkC ?_
                    | refine rkSB ?_
                    | refine rkF ?_
                    | refine rkU ?_
                    | ((fail_if_success (refine rkKn ?_)); refine rkP ?_ ?_ <;> (intro hq; try (have hq' := hq; simp only [hqs] at hq')))
                    | refine stp ?_
                    | refine aws_draws [] mixed (by kernel_rfl) ?_
                    | refine ifT ?_
                    | refine ifF ?_
                    | (refine ifQ ?_ ?_ <;> (try (intro hn)))
                    | (refine ifB ?_ ?_ <;> (intro hq; try (have hq' := hq; simp only [hqs] at hq'))))
                exact rt1 rfl rfl finS_p (rb ev.symm)
    · have d2 : decide (e ≠ 0) = true := decide_eq_true he
      as_aux_lemma =>
        repeat' (first
            | refine rnC ?_
            | refine rnSB ?_
            | refine rnG ?_
            | refine rnU ?_
            | ((fail_if_success (refine rnKn ?_)); refine rnP ?_ ?_ <;> (intro hq; try (have hq' := hq; simp only [hqs] at hq')))
            | refine rkC ?_
            | refine rkSB ?_
            | refine rkF ?_
            | refine rkU ?_
            | ((fail_if_success (refine rkKn ?_)); refine rkP ?_ ?_ <;> (intro hq; try (have hq' := hq; simp only [hqs] at hq')))
            | refine stp ?_
            | refine aws_draws [] mixed (by kernel_rfl) ?_
            | refine ifT ?_
            | refine ifF ?_
            | (refine ifQ ?_ ?_ <;> (try (intro hn)))
            | (refine ifB ?_ ?_ <;> (intro hq; try (have hq' := hq; simp only [hqs] at hq'))))
        exact rt1 rfl rfl finS_p rfl
end Go.Proofs.Ytpmobjnaiaogbaa.Ca
