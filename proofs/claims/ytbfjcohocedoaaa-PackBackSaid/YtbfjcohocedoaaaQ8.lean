/- packs, the law PackBack: carts go there and back; packs: PackBack over what was read -/
import Derived.Test.YtbfjcohocedoaaaQ7
import Derived.Test.YtbfjcohocedoaaaQ4
namespace Go.Proofs.Ytbfjcohocedoaaa.Wi
open Go Go.RowKit Go.Aw Go.Aw.Cart Go.Proofs.Ytbfjcohocedoaaa.Ca
set_option linter.unusedVariables false
set_option linter.unusedSimpArgs false
set_option maxRecDepth 8000
set_option maxHeartbeats 4000000
/-- what hangs on no block: a struct beside a value -/
theorem rv_sl0 {es : Nat} {ex : Bool} : ∀ μ X Y v, AC.holds μ X (.p (.sl es [] ex)) v → AC.holds μ Y (.p (.sl es [] ex)) v := by
  rintro μ X Y v ⟨base, cap, h1, h2, h3, h4, h5⟩
  refine ⟨base, cap, h1, h2, h3, h4, ?_⟩
  cases base with
  | none => exact h5
  | some ad => exact .inl rfl
theorem rv_t2 {cs : List AC} {c : AC} (h : ∀ x ∈ cs, ∀ μ X Y v, AC.holds μ X x v → AC.holds μ Y x v) (k : ∀ μ X Y v, AC.holds μ X c v → AC.holds μ Y c v) : RV (.tup [.agg cs, .one c]) := by
  rintro μ X Y v ⟨arr, rfl, h1⟩
  refine ⟨arr, rfl, h1.1, fun i q x hq hx => ?_⟩
  have hh := h1.2 i q x hq hx
  match i, hq with
  | 0, hq =>
    obtain rfl := Option.some.inj hq
    obtain ⟨a2, rfl, h2⟩ := hh
    exact ⟨a2, rfl, h2.1, fun j y z hy hz => h y (List.mem_of_getElem? hy) μ X Y z (h2.2 j y z hy hz)⟩
  | 1, hq =>
    obtain rfl := Option.some.inj hq
    exact k μ X Y x hh
theorem rv_none : RV (.tup [.agg (cL zeroV [] false), .one (.p (.i 3))]) := by
  refine rv_t2 (fun x hx => ?_) fun _ _ _ _ h => h
  simp only [cL, List.mem_append, List.mem_cons, List.mem_map, List.not_mem_nil, or_false] at hx
  rcases hx with rfl | rfl | rfl | rfl | rfl | rfl | rfl | rfl | rfl
  all_goals first
    | exact rv_sl0
    | exact fun _ _ _ _ h => h
namespace WJ
theorem lopC {C : Ctx} {o : Oper} {σ : St} {e : Eff} {ro : Nat → Bool} (h : LOp C o σ e ro := by
    first
      | (apply lop_bz; (focus rfl); (focus exact inferInstance); (focus exact inferInstance); (focus exact inferInstance); (focus rfl); (focus rfl); (focus rfl))
      | (apply lop_lend1; (focus rfl); (focus exact inferInstance); (focus rfl); (focus rfl); (focus rfl); (focus exact (List.length_map ..).symm); (focus exact inferInstance); (focus first | exact True.intro | assumption | rfl | omega | ((repeat' (first | assumption | refine And.intro ?_ ?_ | omega | rfl)); done) | fail); (focus exact rv_none); (focus rfl))
      | exact WE.lopC
      | fail) : LOp C o σ e ro := h
section steps
variable {C : Ctx} {ops : Array Oper} {o : Oper} {rest : List Oper} {K : St → Prop} {σ : St} {e : Eff} {ro : Nat → Bool} {W : List (Nat × Nat)} {i : Nat}
theorem rnC {d : Nat} (hk : RunN C ops rest K (e.app (some d) σ)) (hg : Guard ops σ o true := by first | exact gd_n rfl rfl | exact gd_t rfl rfl rfl rfl | exact gd_t rfl rfl rfl (by assumption)) (hd : o.dst = some d := by rfl) (h : LOp C o σ e ro := by exact lopC) : RunN C ops (o :: rest) K σ := rn_any hg hd h hk
theorem rkC {d : Nat} (hk : RunK C ops W (i + 1) rest K (e.app (some d) σ)) (hg : Guard ops σ o true := by first | exact gd_n rfl rfl | exact gd_t rfl rfl rfl rfl | exact gd_t rfl rfl rfl (by assumption)) (hd' : o.dst = some d := by rfl) (hd : dOk C o.dst = true := by rfl) (h : LOp C o σ e ro := by exact lopC)
    (hro : ∀ x, ro x = true → okObj ops W i x = true := by first | exact fun _ => ro_none | exact ro_one rfl | exact ro_k1 rfl | exact ro_one (by kernel_rfl) | exact ro_k1 (by kernel_rfl) | exact ro_kIn (by decide)) (hob : ∀ p ∈ e.obj, (i, p.1) ∈ W := by first | exact ob_none | exact ob_one (by decide) | decide) : RunK C ops W i (o :: rest) K σ := rk_wr hg hd' hd h hro hob hk
end steps
end WJ
open WJ
theorem packBack_w (v w : List Int) (l m : List Ent) (ex ey : Bool) (cut : Int) (hv : vecOk v) (hw : vecOk w) (hln : l.length ≤ 9223372036854775807) (hmn : m.length ≤ 9223372036854775807) : PCall Try.prog 5 [cV v l ex, cV w m ey, .p (.i cut)] (.p (.b true)) := by
  refine pcall_of Try.func5 rfl (fun w0 F S0 M0 => ?_)
  by_cases hg : 60 < l.length
  · have d1 : decide (60 < (l.length : Int)) = true := decide_eq_true (by omega)
    as_aux_lemma =>
      repeat' (first
          | refine rnC ?_
          | refine rnSB ?_
          | refine rnG ?_
          | refine rnU ?_
          | ((fail_if_success (refine rnKn ?_)); refine rnP ?_ ?_ <;> (intro hq; try (have hq' := hq; simp only [hqs] at hq')))
          | refine rkC ?_
          | refine rkSB ?_
          | refine rkF ?_
          | refine rkU ?_
          | ((fail_if_success (refine rkKn ?_)); refine rkP ?_ ?_ <;> (intro hq; try (have hq' := hq; simp only [hqs] at hq')))
          | refine stp ?_
          | refine aws_draws [] mixed (by kernel_rfl) ?_
          | refine ifT ?_
          | refine ifF ?_
          | (refine ifQ ?_ ?_ <;> (try (intro hn)))
          | (refine ifB ?_ ?_ <;> (intro hq; try (have hq' := hq; simp only [hqs] at hq'))))
      exact rt1 rfl rfl finS_p rfl
  have d1 : decide (60 < (l.length : Int)) = false := decide_eq_false (by omega)
  by_cases hk : 60 < m.length
  · have d2 : decide (60 < (m.length : Int)) = true := decide_eq_true (by omega)
    as_aux_lemma =>
      repeat' (first
          | refine rnC ?_
          | refine rnSB ?_
          | refine rnG ?_
          | refine rnU ?_
          | ((fail_if_success (refine rnKn ?_)); refine rnP ?_ ?_ <;> (intro hq; try (have hq' := hq; simp only [hqs] at hq')))
          | refine rkC ?_
          | refine rkSB ?_
          | refine rkF ?_
          | refine rkU ?_
          | ((fail_if_success (refine rkKn ?_)); refine rkP ?_ ?_ <;> (intro hq; try (have hq' := hq; simp only [hqs] at hq')))
          | refine stp ?_
          | refine aws_draws [] mixed (by kernel_rfl) ?_
          | refine ifT ?_
          | refine ifF ?_
          | (refine ifQ ?_ ?_ <;> (try (intro hn)))
          | (refine ifB ?_ ?_ <;> (intro hq; try (have hq' := hq; simp only [hqs] at hq'))))
      exact rt1 rfl rfl finS_p rfl
  have d2 : decide (60 < (m.length : Int)) = false := decide_eq_false (by omega)
  cases hr : rightF v l with
  | false =>
    have c1 := write_no v l ex hv.1 (by omega) hr
    haveI : PC Try.prog 20 [cV v l ex] True (.tup [.one (.p (.sl 1 (([] : List Nat).map bR) false)), .one (.p (.i 3))]) := ⟨fun _ => c1⟩
    cases hs : rightF w m with
    | false =>
      have c2 := write_no w m ey hw.1 (by omega) hs
      haveI : PC Try.prog 20 [cV w m ey] True (.tup [.one (.p (.sl 1 (([] : List Nat).map bR) false)), .one (.p (.i 3))]) := ⟨fun _ => c2⟩
      as_aux_lemma =>
        repeat' (first
            | refine rnC ?_
            | refine rnSB ?_
            | refine rnG ?_
            | refine rnU ?_
            | ((fail_if_success (refine rnKn ?_)); refine rnP ?_ ?_ <;> (intro hq; try (have hq' := hq; simp only [hqs] at hq')))
            | refine rkC ?_
            | refine rkSB ?_
            | refine rkF ?_
            | refine rkU ?_
            | ((fail_if_success (refine rkKn ?_)); refine rkP ?_ ?_ <;> (intro hq; try (have hq' := hq; simp only [hqs] at hq')))
            | refine stp ?_
            | refine aws_draws [] mixed (by kernel_rfl) ?_
            | refine ifT ?_
            | refine ifF ?_
            | (refine ifQ ?_ ?_ <;> (try (intro hn)))
            | (refine ifB ?_ ?_ <;> (intro hq; try (have hq' := hq; simp only [hqs] at hq'))))
        exact rt1 rfl rfl finS_p rfl
    | true =>
      have c2 := write_ok w m ey hw hs
      generalize cartB (w, m) = B at c2
      haveI : PC Try.prog 20 [cV w m ey] True (.tup [.one (.p (.sl 1 (B.map bR) false)), .one (.p (.i 0))]) := ⟨fun _ => c2⟩
      as_aux_lemma =>
        repeat' (first
            | refine rnC ?_
            | refine rnSB ?_
            | refine rnG ?_
            | refine rnU ?_
            | ((fail_if_success (refine rnKn ?_)); refine rnP ?_ ?_ <;> (intro hq; try (have hq' := hq; simp only [hqs] at hq')))
            | refine rkC ?_
            | refine rkSB ?_
            | refine rkF ?_
            | refine rkU ?_
            | ((fail_if_success (refine rkKn ?_)); refine rkP ?_ ?_ <;> (intro hq; try (have hq' := hq; simp only [hqs] at hq')))
            | refine stp ?_
            | refine aws_draws [] mixed (by kernel_rfl) ?_
            | refine ifT ?_
            | refine ifF ?_
            | (refine ifQ ?_ ?_ <;> (try (intro hn)))
            | (refine ifB ?_ ?_ <;> (intro hq; try (have hq' := hq; simp only [hqs] at hq'))))
        exact rt1 rfl rfl finS_p rfl
  | true =>
    have c1 := write_ok v l ex hv hr
    obtain ⟨A, hA⟩ : ∃ A, A = cartB (v, l) := ⟨_, rfl⟩
    rw [← hA] at c1
    haveI : PC Try.prog 20 [cV v l ex] True (.tup [.one (.p (.sl 1 (A.map bR) false)), .one (.p (.i 0))]) := ⟨fun _ => c1⟩
    cases hs : rightF w m with
    | false =>
      have c2 := write_no w m ey hw.1 (by omega) hs
      haveI : PC Try.prog 20 [cV w m ey] True (.tup [.one (.p (.sl 1 (([] : List Nat).map bR) false)), .one (.p (.i 3))]) := ⟨fun _ => c2⟩
      as_aux_lemma =>
        repeat' (first
            | refine rnC ?_
            | refine rnSB ?_
            | refine rnG ?_
            | refine rnU ?_
            | ((fail_if_success (refine rnKn ?_)); refine rnP ?_ ?_ <;> (intro hq; try (have hq' := hq; simp only [hqs] at hq')))
            | refine rkC ?_
            | refine rkSB ?_
            | refine rkF ?_
            | refine rkU ?_
            | ((fail_if_success (refine rkKn ?_)); refine rkP ?_ ?_ <;> (intro hq; try (have hq' := hq; simp only [hqs] at hq')))
            | refine stp ?_
            | refine aws_draws [] mixed (by kernel_rfl) ?_
            | refine ifT ?_
            | refine ifF ?_
            | (refine ifQ ?_ ?_ <;> (try (intro hn)))
            | (refine ifB ?_ ?_ <;> (intro hq; try (have hq' := hq; simp only [hqs] at hq'))))
        exact rt1 rfl rfl finS_p rfl
    | true =>
      have c2 := write_ok w m ey hw hs
      obtain ⟨B, hB⟩ : ∃ B, B = cartB (w, m) := ⟨_, rfl⟩
      rw [← hB] at c2
      haveI : PC Try.prog 20 [cV w m ey] True (.tup [.one (.p (.sl 1 (B.map bR) false)), .one (.p (.i 0))]) := ⟨fun _ => c2⟩
      have okA : okB A := hA ▸ cartB_ok _
      have okB' : okB B := hB ▸ cartB_ok _
      have lA : A.length ≤ 20000 := hA ▸ cartB_len hv hr
      have c3 := read_w A false okA (by omega)
      have e3 : readC A = ((v, l), 0) := hA ▸ read_back hr hv
      rw [e3] at c3
      haveI : PC Try.prog 21 [.p (.sl 1 (A.map bR) false)] True (.tup [.agg (cL v l false), .one (.p (.i 0))]) := ⟨fun _ => c3⟩
      have c4 := read_w ((([] : List Nat) ++ A) ++ [0]) false (okB_app (okB_app (fun c hc => by cases hc) okA) (fun c hc => by simp at hc; omega)) (by simp; omega)
      have e4 : readC ((([] : List Nat) ++ A) ++ [0]) = ((zeroV, []), 3) := hA ▸ read_more hr hv
      rw [e4] at c4
      haveI : PC Try.prog 21 [.p (.sl 1 (((([] : List Nat) ++ A) ++ [0]).map bR) false)] True (.tup [.agg (cL zeroV [] false), .one (.p (.i 3))]) := ⟨fun _ => c4⟩
      have c5 := same_w v v l l false ex hv.1 hv.1 (by omega)
      rw [show sameF v v l l = true by simp [sameF]] at c5
      haveI : PC Try.prog 14 [cV v l false, cV v l ex] True (.p (.b true)) := ⟨fun _ => c5⟩
      have c6 := same_w v w l m ex ey hv.1 hw.1 (by omega)
      have e6 : sameF v w l m = decide (A = B) := by
        rw [Bool.eq_iff_iff, decide_eq_true_iff, hA, hB]
        refine ⟨fun h => ?_, fun h => ?_⟩
        · have : v = w ∧ l = m := by simpa [sameF] using h
          rw [this.1, this.2]
        · have := cartB_inj (c := (v, l)) (d := (w, m)) hr hv hs hw h
          simp only [Prod.mk.injEq] at this
          simp [sameF, this.1, this.2]
      have c7 : cut < A.length → 0 ≤ cut → PC Try.prog 21 [.p (.sl 1 ((A.take cut.toNat).map bR) false)] True (.tup [.agg (cL zeroV [] false), .one (.p (.i 3))]) := fun h1 h0 => by
        have c8 := read_w (A.take cut.toNat) false (fun c hc => okA c (List.mem_of_mem_take hc)) (by rw [List.length_take]; omega)
        have e8 : readC (A.take cut.toNat) = ((zeroV, []), 3) := by
          have hlt : cut.toNat < A.length := by omega
          rw [hA] at hlt ⊢
          exact read_cut hr hv hlt
        rw [e8] at c8
        exact ⟨fun _ => c8⟩
      clear hA hB c1 c2 c3 c4 c5 e3 e4
      rw [e6] at c6
      have c9 : ∀ b : Bool, decide (A = B) = b → PC Try.prog 14 [cV v l ex, cV w m ey] True (.p (.b b)) := fun b hb => ⟨fun _ => hb ▸ c6⟩
      clear c6 e6
      obtain ⟨b, hab⟩ : ∃ b, decide (A = B) = b := ⟨_, rfl⟩
      have d5 : (decide (A = B) != b) = false := by rw [hab]; cases b <;> rfl
      haveI := c9 _ hab
      clear hab
      by_cases h0 : 0 ≤ cut
      · have d3 : decide (0 ≤ cut) = true := decide_eq_true h0
        by_cases h1 : cut < A.length
        · have d4 : decide (cut < (A.length : Int)) = true := decide_eq_true h1
          haveI := c7 h1 h0
          as_aux_lemma =>
            repeat' (first
                | refine rnC ?_
                | refine rnSB ?_
                | refine rnG ?_
                | refine rnU ?_
                | ((fail_if_success (refine rnKn ?_)); refine rnP ?_ ?_ <;> (intro hq; try (have hq' := hq; simp only [hqs] at hq')))
                | refine rkC ?_
                | refine rkSB ?_
                | refine rkF ?_
                | refine rkU ?_
                | ((fail_if_success (refine rkKn ?_)); refine rkP ?_ ?_ <;> (intro hq; try (have hq' := hq; simp only [hqs] at hq')))
                | refine stp ?_
                | refine aws_draws [] mixed (by kernel_rfl) ?_
                | refine ifT ?_
                | refine ifF ?_
                | (refine ifQ ?_ ?_ <;> (try (intro hn)))
                | (refine ifB ?_ ?_ <;> (intro hq; try (have hq' := hq; simp only [hqs] at hq'))))
            exact rt1 rfl rfl finS_p rfl
        · have d4 : decide (cut < (A.length : Int)) = false := decide_eq_false h1
          as_aux_lemma =>
            repeat' (first
                | refine rnC ?_
                | refine rnSB ?_
                | refine rnG ?_
                | refine rnU ?_
                | ((fail_if_success (refine rnKn ?_)); refine rnP ?_ ?_ <;> (intro hq; try (have hq' := hq; simp only [hqs] at hq')))
                | refine rkC ?_
                | refine rkSB ?_
                | refine rkF ?_
                | refine rkU ?_
                | ((fail_if_success (refine rkKn ?_)); refine rkP ?_ ?_ <;> (intro hq; try (have hq' := hq; simp only [hqs] at hq')))
                | refine stp ?_
                | refine aws_draws [] mixed (by kernel_rfl) ?_
                | refine ifT ?_
                | refine ifF ?_
                | (refine ifQ ?_ ?_ <;> (try (intro hn)))
                | (refine ifB ?_ ?_ <;> (intro hq; try (have hq' := hq; simp only [hqs] at hq'))))
            exact rt1 rfl rfl finS_p rfl
      · have d3 : decide (0 ≤ cut) = false := decide_eq_false h0
        as_aux_lemma =>
          repeat' (first
              | refine rnC ?_
              | refine rnSB ?_
              | refine rnG ?_
              | refine rnU ?_
              | ((fail_if_success (refine rnKn ?_)); refine rnP ?_ ?_ <;> (intro hq; try (have hq' := hq; simp only [hqs] at hq')))
              | refine rkC ?_
              | refine rkSB ?_
              | refine rkF ?_
              | refine rkU ?_
              | ((fail_if_success (refine rkKn ?_)); refine rkP ?_ ?_ <;> (intro hq; try (have hq' := hq; simp only [hqs] at hq')))
              | refine stp ?_
              | refine aws_draws [] mixed (by kernel_rfl) ?_
              | refine ifT ?_
              | refine ifF ?_
              | (refine ifQ ?_ ?_ <;> (try (intro hn)))
              | (refine ifB ?_ ?_ <;> (intro hq; try (have hq' := hq; simp only [hqs] at hq'))))
          exact rt1 rfl rfl finS_p rfl
end Go.Proofs.Ytbfjcohocedoaaa.Wi
namespace Go.Proofs.Ytbfjcohocedoaaa.Wi
open Go Go.RowKit Go.Aw Go.Aw.Cart Go.Proofs.Ytbfjcohocedoaaa.Ca
set_option linter.unusedVariables false
set_option linter.unusedSimpArgs false
theorem packBack_a (x y : Crt) (c : Int) (h : CIn x) (k : CIn y) : PCall Try.prog 5 [argAV true (cRow x), argAV true (cRow y), argAV false [.k .i64 c]] (.p (.b true)) := by
  rw [c_arg h, c_arg k]; exact packBack_w x.1 y.1 x.2 y.2 false false c ⟨h.v8, h.vb⟩ ⟨k.v8, k.vb⟩ h.len k.len
end Go.Proofs.Ytbfjcohocedoaaa.Wi
