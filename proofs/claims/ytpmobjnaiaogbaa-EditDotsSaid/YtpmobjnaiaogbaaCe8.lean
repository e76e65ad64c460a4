/- edits, the laws: EditDots -/
import Derived.Test.YtpmobjnaiaogbaaCe6
import Derived.Test.YtpmobjnaiaogbaaCd2
namespace Go.Proofs.Ytpmobjnaiaogbaa.Ca
open Go Go.RowKit Go.Aw Go.Aw.Cart Go.Aw.Ord Go.Sort
set_option linter.unusedVariables false
set_option linter.unusedSimpArgs false
set_option maxRecDepth 8000
set_option maxHeartbeats 4000000
/-- what EditDots needs of an op that was done -/
structure Step (used : List Dot) (c : Crt) (o : Op3) (d : Crt) (x : Evt) : Prop where
  new : o.1 < 3 → hasF c.1 x.2.2.2.1 = false ∧ hasF d.1 x.2.2.2.1 = true ∧ decide (x.2.2.2.1 ∈ liveF d.2) = true ∧ decide (x.2.2.2.1 ∈ used) = false
  off : ∀ z ∈ x.2.2.2.2, decide (z ∈ liveF c.2) = true ∧ isOffF d.1 d.2 z = true
  use : ∀ z ∈ used ++ [x.2.2.2.1], z = (0, 0) ∨ hasF d.1 z = true
  len : d.1.length = 8
  bnd : ∀ n ∈ d.1, 0 ≤ n ∧ n < 18446744073709551616
  few : d.2.length ≤ 400
  lev : (liveF d.2).length ≤ 1000000000
  lec : (liveF c.2).length ≤ 1000000000
  olen : x.2.2.2.2.length ≤ 2000
theorem live_le' {l : List Ent} (h : l.length ≤ 2000) : (liveF l).length ≤ 1000000000 := by
  rw [live_set l h]
  have := setF_len (l.map dotE)
  rw [List.length_map] at this; omega
theorem step_of {used : List Dot} {c : Crt} {nd : Int} {o : Op3} (hc : c.1.length = 8) (hb : ∀ n ∈ c.1, 0 ≤ n ∧ n < 18446744073709551616) (hu : ∀ z ∈ used, z = (0, 0) ∨ hasF c.1 z = true) (h : (doF c nd o).2 = 0) : Step used c o (doF c nd o).1.1 (doF c nd o).1.2 := by
  have d := did h
  have k := d.okd hc hb
  have f := d.ok.few
  have fd := k.few
  have hn := of_decide_eq_true d.node
  refine ⟨fun ho => ?_, fun z hz => ?_, fun z hz => ?_, d.len8 hc, d.bnd hb, k.few, live_le' (by omega), live_le' (by omega), ?_⟩
  · obtain ⟨h1, h2, h3, h4⟩ := new_law hc hb d ho
    rw [h1]
    refine ⟨h2, h3, decide_eq_true h4, decide_eq_false fun q => ?_⟩
    rcases hu _ q with e | e
    · have : nd = 0 := congrArg Prod.fst e
      omega
    · rw [h2] at e; cases e
  · rw [evt_off d] at hz
    obtain ⟨h1, h2⟩ := off_law2 hc hb d hz
    exact ⟨decide_eq_true h1, h2⟩
  · rcases List.mem_append.1 hz with q | q
    · rcases hu z q with e | e
      · exact .inl e
      · exact .inr (d.has hc hb z e)
    · rw [List.mem_singleton.1 q]
      by_cases ho : o.1 < 3
      · obtain ⟨h1, h2, h3, h4⟩ := new_law hc hb d ho
        rw [h1]; exact .inr h3
      · rcases d.is with ⟨a1, a2, e⟩ | ⟨a1, a2, a3, e⟩
        · rw [e]; exact .inl rfl
        · have := of_decide_eq_true a1
          omega
  · rw [evt_off d]
    have := off_len o (l := c.2) (by omega)
    omega
namespace E8
theorem lopC {C : Ctx} {o : Oper} {σ : St} {e : Eff} {ro : Nat → Bool} (h : LOp C o σ e ro := by
    first
      | (apply lop_ap_pair; (focus rfl); (focus exact inferInstance); (focus exact inferInstance); (focus exact inferInstance); (focus rfl); (focus rfl); (focus rfl); (focus rfl); (focus rfl); (focus rfl); (focus first | (simp only [maxLen, List.length_append, List.length_cons, List.length_nil, List.length_take, List.length_drop, List.length_map]; omega) | omega); (focus first | (simp only [maxLen, List.length_append, List.length_cons, List.length_nil, List.length_take, List.length_drop, List.length_map]; omega) | omega); (focus rfl))
      | exact E6.lopC
      | fail) : LOp C o σ e ro := h
section steps
variable {C : Ctx} {ops : Array Oper} {o : Oper} {rest : List Oper} {K : St → Prop} {σ : St} {e : Eff} {ro : Nat → Bool} {W : List (Nat × Nat)} {i : Nat}
theorem rnC {d : Nat} (hk : RunN C ops rest K (e.app (some d) σ)) (hg : Guard ops σ o true := by first | exact gd_n rfl rfl | exact gd_t rfl rfl rfl rfl | exact gd_t rfl rfl rfl (by assumption)) (hd : o.dst = some d := by rfl) (h : LOp C o σ e ro := by exact lopC) : RunN C ops (o :: rest) K σ := rn_any hg hd h hk
theorem rkC {d : Nat} (hk : RunK C ops W (i + 1) rest K (e.app (some d) σ)) (hg : Guard ops σ o true := by first | exact gd_n rfl rfl | exact gd_t rfl rfl rfl rfl | exact gd_t rfl rfl rfl (by assumption)) (hd' : o.dst = some d := by rfl) (hd : dOk C o.dst = true := by rfl) (h : LOp C o σ e ro := by exact lopC)
    (hro : ∀ x, ro x = true → okObj ops W i x = true := by first | exact fun _ => ro_none | exact ro_one rfl | exact ro_k1 rfl | exact ro_one (by kernel_rfl) | exact ro_k1 (by kernel_rfl) | exact ro_kIn (by decide)) (hob : ∀ p ∈ e.obj, (i, p.1) ∈ W := by first | exact ob_none | exact ob_one (by decide) | decide) : RunK C ops W i (o :: rest) K σ := rk_wr hg hd' hd h hro hob hk
end steps
end E8
open E8
theorem editDots_w (v : List Int) (l : List Ent) (ex : Bool) (nd : Int) (ops : List Op3) (exo : Bool) (hv : v.length = 8) (hb : ∀ n ∈ v, 0 ≤ n ∧ n < 18446744073709551616) : PCall Try.prog 8 [cV v l ex, .p (.i nd), .p (.sl 3 (ops.map opR) exo)] (.p (.b true)) := by
  refine pcall_of Try.func8 rfl (fun w0 F S0 M0 => ?_)
  by_cases hg : 60 < l.length
  · have d1 : decide (60 < (l.length : Int)) = true := decide_eq_true (by omega)
    as_aux_lemma =>
      repeat' (first
          | refine rnC ?_
          | refine rnSB ?_
          | refine rnG ?_
          | refine rnU ?_
          | ((fail_if_success (refine rnKn ?_)); refine rnP ?_ ?_ <;> (intro hq; try (have hq' := hq; simp only [hqs] at hq')))
          | refine rkC ?_
          | refine rkSB ?_
          | refine rkF ?_
          | refine rkU ?_
          | ((fail_if_success (refine rkKn ?_)); refine rkP ?_ ?_ <;> (intro hq; try (have hq' := hq; simp only [hqs] at hq')))
          | refine stp ?_
          | refine aws_draws [] mixed (by kernel_rfl) ?_
          | refine ifT ?_
          | refine ifF ?_
          | (refine ifQ ?_ ?_ <;> (try (intro hn)))
          | (refine ifB ?_ ?_ <;> (intro hq; try (have hq' := hq; simp only [hqs] at hq'))))
      exact rt1 rfl rfl finS_p rfl
  · have d1 : decide (60 < (l.length : Int)) = false := decide_eq_false (by omega)
    by_cases hk : 40 < ops.length
    · have d2 : decide (40 < (ops.length : Int)) = true := decide_eq_true (by omega)
      as_aux_lemma =>
        repeat' (first
            | refine rnC ?_
            | refine rnSB ?_
            | refine rnG ?_
            | refine rnU ?_
            | ((fail_if_success (refine rnKn ?_)); refine rnP ?_ ?_ <;> (intro hq; try (have hq' := hq; simp only [hqs] at hq')))
            | refine rkC ?_
            | refine rkSB ?_
            | refine rkF ?_
            | refine rkU ?_
            | ((fail_if_success (refine rkKn ?_)); refine rkP ?_ ?_ <;> (intro hq; try (have hq' := hq; simp only [hqs] at hq')))
            | refine stp ?_
            | refine aws_draws [] mixed (by kernel_rfl) ?_
            | refine ifT ?_
            | refine ifF ?_
            | (refine ifQ ?_ ?_ <;> (try (intro hn)))
            | (refine ifB ?_ ?_ <;> (intro hq; try (have hq' := hq; simp only [hqs] at hq'))))
        exact rt1 rfl rfl finS_p rfl
    · have d2 : decide (40 < (ops.length : Int)) = false := decide_eq_false (by omega)
      repeat' (first
          | refine rnC ?_
          | refine rnSB ?_
          | refine rnG ?_
          | refine rnU ?_
          | ((fail_if_success (refine rnKn ?_)); refine rnP ?_ ?_ <;> (intro hq; try (have hq' := hq; simp only [hqs] at hq')))
          | refine rkC ?_
          | refine rkSB ?_
          | refine rkF ?_
          | refine rkU ?_
          | ((fail_if_success (refine rkKn ?_)); refine rkP ?_ ?_ <;> (intro hq; try (have hq' := hq; simp only [hqs] at hq')))
          | refine stp ?_
          | refine ifT ?_
          | refine ifF ?_
          | (refine ifQ ?_ ?_ <;> (try (intro hn)))
          | (refine ifB ?_ ?_ <;> (intro hq; try (have hq' := hq; simp only [hqs] at hq'))))
      refine aws_says (says_nil (t := 7) (o := 900) (ty := 54) (es := 2) rfl rfl (by decide)) ?_
      refine aws_loopS [6, 7, 8, 9, 10, 11, 12, 21, 22, 23, 24, 25, 26, 27, 28, 29, 30, 31, 32, 33, 34, 35, 36, 37, 38, 39, 40, 41, 42, 43, 44, 45, 46, 47, 48, 49, 50, 51, 52, 53, 54, 55, 56, 57, 58, 59, 60, 61, 62, 63, 64, 65, 66, 67, 68, 69, 70, 71, 72, 73, 74, 75, 76, 77, 78, 79, 80, 81, 82, 83, 84, 85, 86, 87, 88, 89, 90, 91, 92, 93, 94, 95, 96, 97, 98, 99, 100, 101, 102, 103, 104, 105, 106] [3, 9, 10, 900] (fun (x : Nat × Nat × List Dot × List Int × List Ent × Bool × Option MO × Option MO) => [(8, .p (.i x.1)), (7, .o (.osl 900 x.2.1 2 0 x.2.2.1.length))])
        (fun x => [(3, (1, some (.box 27 (cL x.2.2.2.1 x.2.2.2.2.1 x.2.2.2.2.2.1)))), (9, (x.1, x.2.2.2.2.2.2.1)), (10, (x.1, x.2.2.2.2.2.2.2)), (900, (x.2.1 + 1, some (.buf 54 2 (x.2.2.1.map dR))))])
        (fun x => x.1 ≤ ops.length ∧ x.2.2.1.length ≤ x.1 ∧ x.2.2.2.1.length = 8 ∧ (∀ n ∈ x.2.2.2.1, 0 ≤ n ∧ n < 18446744073709551616) ∧ x.2.2.2.2.1.length ≤ 400 ∧ ∀ z ∈ x.2.2.1, z = (0, 0) ∨ hasF x.2.2.2.1 z = true)
        (fun x => ops.length - x.1) (0, 0, [], v, l, ex, none, none) ⟨Nat.zero_le _, Nat.zero_le _, hv, hb, by dsimp only; omega, fun z hz => (by cases hz)⟩ (by exact knA) (by exact knA) ?_
      rintro ⟨i, gu, used, cv, cl, cex, c9, c10⟩ β γ ⟨hi, hul, hcv, hcb, hcf, hu⟩
      dsimp only at hi hul hcv hcb hcf hu ⊢
      by_cases hil : i < ops.length
      · have q0 : decide ((i : Int) < (ops.length : Int)) = true := decide_eq_true (by omega)
        have cd := do_w cv cl cex nd (ops.getD (i : Int).toNat default) hcv hcb (by omega)
        have ST := @step_of used (cv, cl) nd (ops.getD (i : Int).toNat default) hcv hcb hu
        generalize doF (cv, cl) nd (ops.getD (i : Int).toNat default) = r at cd ST
        obtain ⟨⟨⟨dv, dl⟩, ⟨xk, xi, xq, xd, xo⟩⟩, e⟩ := r
        dsimp only at cd ST
        haveI : PC Try.prog 31 [cV cv cl cex, .p (.i nd), opV (ops.getD (i : Int).toNat default)] True (.tup [.agg (cL dv dl false), .agg (xL (xk, xi, xq, xd, xo)), .one (.p (.i e))]) := ⟨fun _ => cd⟩
        clear cd
        repeat' (first
            | refine rnC ?_
            | refine rnSB ?_
            | refine rnG ?_
            | refine rnU ?_
            | ((fail_if_success (refine rnKn ?_)); refine rnP ?_ ?_ <;> (intro hq; try (have hq' := hq; simp only [hqs] at hq')))
            | refine rkC ?_
            | refine rkSB ?_
            | refine rkF ?_
            | refine rkU ?_
            | ((fail_if_success (refine rkKn ?_)); refine rkP ?_ ?_ <;> (intro hq; try (have hq' := hq; simp only [hqs] at hq')))
            | refine stp ?_
            | refine ifT ?_
            | refine ifF ?_
            | (refine ifQ ?_ ?_ <;> (try (intro hn)))
            | (refine ifB ?_ ?_ <;> (intro hq; try (have hq' := hq; simp only [hqs] at hq'))))
        refine aws_draws [(11, 9), (12, 10), (13, 9), (14, 10)] mixed (by kernel_rfl) ?_
        repeat' (first
            | refine rk_nil ?_
            | refine rkC ?_
            | refine rkSB ?_
            | refine rkF ?_
            | refine rkU ?_
            | ((fail_if_success (refine rkKn ?_)); refine rkP ?_ ?_ <;> (intro hq; try (have hq' := hq; simp only [hqs] at hq'))))
        by_cases he : e = 0
        · have q1 : decide (e ≠ 0) = false := decide_eq_false fun q => q he
          obtain ⟨g1, g2, g3, g4, g5, g6, g7, g8, g9⟩ := ST he
          dsimp only at g1 g2 g3 g4 g5 g6 g7 g8 g9
          clear ST
          have hcl6 : cl.length ≤ 1000000 := by omega
          have hdl6 : dl.length ≤ 1000000 := by omega
          have hcl9 : cl.length ≤ 1000000000 := by omega
          have hdl9 : dl.length ≤ 1000000000 := by omega
          have hus : used.length ≤ 1000000000 := by omega
          have xo9 : xo.length ≤ 1000000000 := by omega
          have key : ∃ σ2 : Unit, True := ⟨(), trivial⟩
          by_cases ho : (ops.getD (i : Int).toNat default).1 < 3
          · have q2 : decide ((ops.getD (i : Int).toNat default).1 < 3) = true := decide_eq_true ho
            obtain ⟨n1, n2, n3, n4⟩ := g1 ho
            have q3 : (!hasF dv xd) = false := by rw [n2]; rfl
            have q4 : (!decide (xd ∈ liveF dl)) = false := by rw [n3]; rfl
            repeat' (first
                | refine rnC ?_
                | refine rnSB ?_
                | refine rnG ?_
                | refine rnU ?_
                | refine rkC ?_
                | refine rkSB ?_
                | refine rkF ?_
                | refine rkU ?_
                | refine stp ?_
                | refine ifT ?_
                | refine ifF ?_
                | fail)
            refine aws_draws [(32, 900)] mixed (by kernel_rfl) ?_
            repeat' (first
                | refine rk_nil ?_
                | refine rkC ?_
                | refine rkSB ?_
                | refine rkF ?_
                | refine rkU ?_
                | ((fail_if_success (refine rkKn ?_)); refine rkP ?_ ?_ <;> (intro hq; try (have hq' := hq; simp only [hqs] at hq'))))
            repeat' (first
                | refine rnC ?_
                | refine rnSB ?_
                | refine rnG ?_
                | refine rnU ?_
                | refine rkC ?_
                | refine rkSB ?_
                | refine rkF ?_
                | refine rkU ?_
                | refine stp ?_
                | refine ifT ?_
                | refine ifF ?_
                | fail)
            refine aws_loopS [6, 12, 75, 76, 77, 78, 79, 80, 81, 82, 83, 84, 85, 86, 87, 88, 89, 90, 91, 92, 93, 94, 95, 96, 97, 98, 99, 100] [] (fun (k : Nat) => [(12, .p (.i k))]) (fun _ => []) (fun k => k ≤ xo.length) (fun k => xo.length - k) 0 (Nat.zero_le _) (by exact knA) (by exact knA) ?_
            rintro k β γ hkx
            by_cases hkl : k < xo.length
            · have p0 : decide ((k : Int) < (xo.length : Int)) = true := decide_eq_true (by omega)
              have hz := g2 (xo.getD (k : Int).toNat default) (by rw [Int.toNat_natCast, getD_at hkl]; exact List.getElem_mem _)
              have p1 : (!decide (xo.getD (k : Int).toNat default ∈ liveF cl)) = false := by rw [hz.1]; rfl
              have p2 : (!isOffF dv dl (xo.getD (k : Int).toNat default)) = false := by rw [hz.2]; rfl
              as_aux_lemma =>
                repeat' (first
                    | refine rnC ?_
                    | refine rnSB ?_
                    | refine rnG ?_
                    | refine rnU ?_
                    | ((fail_if_success (refine rnKn ?_)); refine rnP ?_ ?_ <;> (intro hq; try (have hq' := hq; simp only [hqs] at hq')))
                    | refine rkC ?_
                    | refine rkSB ?_
                    | refine rkF ?_
                    | refine rkU ?_
                    | ((fail_if_success (refine rkKn ?_)); refine rkP ?_ ?_ <;> (intro hq; try (have hq' := hq; simp only [hqs] at hq')))
                    | refine stp ?_
                    | refine aws_draws [] mixed (by kernel_rfl) ?_
                    | refine ifT ?_
                    | refine ifF ?_
                    | (refine ifQ ?_ ?_ <;> (try (intro hn)))
                    | (refine ifB ?_ ?_ <;> (intro hq; try (have hq' := hq; simp only [hqs] at hq'))))
                exact ⟨k + 1, _, by omega, by omega, .refl, by exact frA⟩
            · have p0 : decide ((k : Int) < (xo.length : Int)) = false := decide_eq_false (by omega)
              as_aux_lemma =>
                repeat' (first
                    | refine rnC ?_
                    | refine rnSB ?_
                    | refine rnG ?_
                    | refine rnU ?_
                    | ((fail_if_success (refine rnKn ?_)); refine rnP ?_ ?_ <;> (intro hq; try (have hq' := hq; simp only [hqs] at hq')))
                    | refine rkC ?_
                    | refine rkSB ?_
                    | refine rkF ?_
                    | refine rkU ?_
                    | ((fail_if_success (refine rkKn ?_)); refine rkP ?_ ?_ <;> (intro hq; try (have hq' := hq; simp only [hqs] at hq')))
                    | refine stp ?_
                    | refine aws_draws [] mixed (by kernel_rfl) ?_
                    | refine ifT ?_
                    | refine ifF ?_
                    | (refine ifQ ?_ ?_ <;> (try (intro hn)))
                    | (refine ifB ?_ ?_ <;> (intro hq; try (have hq' := hq; simp only [hqs] at hq'))))
                exact ⟨(i + 1, gu + 1, used ++ [(xd.1, xd.2)], dv, dl, false, _, _), _, by dsimp only; omega, ⟨by dsimp only; omega, by dsimp only; rw [List.length_append, List.length_singleton]; omega, g4, g5, g6, g3⟩, .refl, by exact frA⟩
          · have q2 : decide ((ops.getD (i : Int).toNat default).1 < 3) = false := decide_eq_false ho
            repeat' (first
                | refine rnC ?_
                | refine rnSB ?_
                | refine rnG ?_
                | refine rnU ?_
                | refine rkC ?_
                | refine rkSB ?_
                | refine rkF ?_
                | refine rkU ?_
                | refine stp ?_
                | refine aws_draws [] mixed (by kernel_rfl) ?_
                | refine ifT ?_
                | refine ifF ?_
                | fail)
            refine aws_loopS [6, 12, 75, 76, 77, 78, 79, 80, 81, 82, 83, 84, 85, 86, 87, 88, 89, 90, 91, 92, 93, 94, 95, 96, 97, 98, 99, 100] [] (fun (k : Nat) => [(12, .p (.i k))]) (fun _ => []) (fun k => k ≤ xo.length) (fun k => xo.length - k) 0 (Nat.zero_le _) (by exact knA) (by exact knA) ?_
            rintro k β γ hkx
            by_cases hkl : k < xo.length
            · have p0 : decide ((k : Int) < (xo.length : Int)) = true := decide_eq_true (by omega)
              have hz := g2 (xo.getD (k : Int).toNat default) (by rw [Int.toNat_natCast, getD_at hkl]; exact List.getElem_mem _)
              have p1 : (!decide (xo.getD (k : Int).toNat default ∈ liveF cl)) = false := by rw [hz.1]; rfl
              have p2 : (!isOffF dv dl (xo.getD (k : Int).toNat default)) = false := by rw [hz.2]; rfl
              as_aux_lemma =>
                repeat' (first
                    | refine rnC ?_
                    | refine rnSB ?_
                    | refine rnG ?_
                    | refine rnU ?_
                    | ((fail_if_success (refine rnKn ?_)); refine rnP ?_ ?_ <;> (intro hq; try (have hq' := hq; simp only [hqs] at hq')))
                    | refine rkC ?_
                    | refine rkSB ?_
                    | refine rkF ?_
                    | refine rkU ?_
                    | ((fail_if_success (refine rkKn ?_)); refine rkP ?_ ?_ <;> (intro hq; try (have hq' := hq; simp only [hqs] at hq')))
                    | refine stp ?_
                    | refine aws_draws [] mixed (by kernel_rfl) ?_
                    | refine ifT ?_
                    | refine ifF ?_
                    | (refine ifQ ?_ ?_ <;> (try (intro hn)))
                    | (refine ifB ?_ ?_ <;> (intro hq; try (have hq' := hq; simp only [hqs] at hq'))))
                exact ⟨k + 1, _, by omega, by omega, .refl, by exact frA⟩
            · have p0 : decide ((k : Int) < (xo.length : Int)) = false := decide_eq_false (by omega)
              as_aux_lemma =>
                repeat' (first
                    | refine rnC ?_
                    | refine rnSB ?_
                    | refine rnG ?_
                    | refine rnU ?_
                    | ((fail_if_success (refine rnKn ?_)); refine rnP ?_ ?_ <;> (intro hq; try (have hq' := hq; simp only [hqs] at hq')))
                    | refine rkC ?_
                    | refine rkSB ?_
                    | refine rkF ?_
                    | refine rkU ?_
                    | ((fail_if_success (refine rkKn ?_)); refine rkP ?_ ?_ <;> (intro hq; try (have hq' := hq; simp only [hqs] at hq')))
                    | refine stp ?_
                    | refine aws_draws [] mixed (by kernel_rfl) ?_
                    | refine ifT ?_
                    | refine ifF ?_
                    | (refine ifQ ?_ ?_ <;> (try (intro hn)))
                    | (refine ifB ?_ ?_ <;> (intro hq; try (have hq' := hq; simp only [hqs] at hq'))))
                exact ⟨(i + 1, gu + 1, used ++ [(xd.1, xd.2)], dv, dl, false, _, _), _, by dsimp only; omega, ⟨by dsimp only; omega, by dsimp only; rw [List.length_append, List.length_singleton]; omega, g4, g5, g6, g3⟩, .refl, by exact frA⟩
        · have q1 : decide (e ≠ 0) = true := decide_eq_true he
          as_aux_lemma =>
            repeat' (first
                | refine rnC ?_
                | refine rnSB ?_
                | refine rnG ?_
                | refine rnU ?_
                | ((fail_if_success (refine rnKn ?_)); refine rnP ?_ ?_ <;> (intro hq; try (have hq' := hq; simp only [hqs] at hq')))
                | refine rkC ?_
                | refine rkSB ?_
                | refine rkF ?_
                | refine rkU ?_
                | ((fail_if_success (refine rkKn ?_)); refine rkP ?_ ?_ <;> (intro hq; try (have hq' := hq; simp only [hqs] at hq')))
                | refine stp ?_
                | refine aws_draws [] mixed (by kernel_rfl) ?_
                | refine ifT ?_
                | refine ifF ?_
                | (refine ifQ ?_ ?_ <;> (try (intro hn)))
                | (refine ifB ?_ ?_ <;> (intro hq; try (have hq' := hq; simp only [hqs] at hq'))))
            exact ⟨(i + 1, gu, used, cv, cl, cex, _, _), _, by dsimp only; omega, ⟨by dsimp only; omega, by dsimp only; omega, hcv, hcb, hcf, hu⟩, .refl, by exact frA⟩
      · have q0 : decide ((i : Int) < (ops.length : Int)) = false := decide_eq_false (by omega)
        as_aux_lemma =>
          repeat' (first
              | refine rnC ?_
              | refine rnSB ?_
              | refine rnG ?_
              | refine rnU ?_
              | ((fail_if_success (refine rnKn ?_)); refine rnP ?_ ?_ <;> (intro hq; try (have hq' := hq; simp only [hqs] at hq')))
              | refine rkC ?_
              | refine rkSB ?_
              | refine rkF ?_
              | refine rkU ?_
              | ((fail_if_success (refine rkKn ?_)); refine rkP ?_ ?_ <;> (intro hq; try (have hq' := hq; simp only [hqs] at hq')))
              | refine stp ?_
              | refine aws_draws [] mixed (by kernel_rfl) ?_
              | refine ifT ?_
              | refine ifF ?_
              | (refine ifQ ?_ ?_ <;> (try (intro hn)))
              | (refine ifB ?_ ?_ <;> (intro hq; try (have hq' := hq; simp only [hqs] at hq'))))
          exact rt1 rfl rfl finS_p rfl
end Go.Proofs.Ytpmobjnaiaogbaa.Ca
