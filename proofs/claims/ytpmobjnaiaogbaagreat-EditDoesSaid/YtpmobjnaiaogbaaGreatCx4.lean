/- edits, the laws: EditDoes -/
import Derived.Test.YtpmobjnaiaogbaaGreatCr9
import Derived.Test.YtpmobjnaiaogbaaGreatCe2
import Derived.Test.YtpmobjnaiaogbaaGreatCq30
import Derived.Test.YtpmobjnaiaogbaaGreatCrA
import Derived.Test.YtpmobjnaiaogbaaGreatCx1
import Derived.Test.YtpmobjnaiaogbaaGreatCx2
import Derived.Test.YtpmobjnaiaogbaaGreatCx3
import Derived.Test.YtpmobjnaiaogbaaGreatCbR
import Derived.Test.YtpmobjnaiaogbaaGreatCe1
import Derived.Test.YtpmobjnaiaogbaaGreatCq2
namespace Go.Proofs.YtpmobjnaiaogbaaGreat.Cq
open Go Go.RowKit Go.Aw Go.Aw.Cart Go.Aw.Ord Go.Proofs.YtpmobjnaiaogbaaGreat.Ca
set_option linter.unusedVariables false
set_option linter.unusedSimpArgs false
set_option maxRecDepth 8000
set_option maxHeartbeats 4000000
/-- two cells of a variable, from some place on -/
theorem lop_ld_c2 {C : Ctx} {o : Oper} {σ : St} {T : TypeId} {x : Operand} {k : TK} {sz by_ : Nat} {ob g off n : Nat} {ty : TypeId} {cs : List AC} {c0 c1 : AC} (ho : o.op = .load T x) (hT : TI C.P T k sz by_) (hx : σ.look x = .o (.ptr ob g off)) (hm : σ.mem ob = (n, some (.box ty cs))) (hn : n = g + 1) (hk : k.agg = true) (hs : sz = 2) (hc : (cs.drop off).take 2 = [c0, c1]) (hd : dOk C o.dst = true) :
    LOp C o σ ⟨.a [c0, c1], []⟩ (fun y => y == ob) := by
  subst hs
  have hl := congrArg List.length hc
  rw [List.length_take, List.length_drop, List.length_cons, List.length_singleton] at hl
  exact lop_ld_cells ho hT hx hm hn hk (decide_eq_true (by omega)) hc hd
namespace Q5
theorem lopC {C : Ctx} {o : Oper} {σ : St} {e : Eff} {ro : Nat → Bool} (h : LOp C o σ e ro := by
    first
      | exact Go.Proofs.YtpmobjnaiaogbaaGreat.Cv.R9.lopC
      | (apply gLoad; (focus rfl); apply lop_ld_c2; (focus rfl); (focus exact inferInstance); (focus rfl); (focus rfl); (focus rfl); (focus rfl); (focus rfl); (focus rfl); (focus rfl))
      | (apply lop_build5; (focus rfl); (focus exact inferInstance); (focus exact inferInstance); (focus first | exact lk_m1 rfl | exact lk_m2 rfl | exact lk_m3 rfl | exact lk_o rfl | exact lk_a2 rfl | exact lk_a3 rfl | exact lk_a4 rfl | exact lk_a1 rfl | exact lk_a5 rfl | exact lk_a6 rfl | exact lk_a7 rfl | exact lk_a8 rfl | exact lk_a rfl); (focus first | exact lk_m1 rfl | exact lk_m2 rfl | exact lk_m3 rfl | exact lk_o rfl | exact lk_a2 rfl | exact lk_a3 rfl | exact lk_a4 rfl | exact lk_a1 rfl | exact lk_a5 rfl | exact lk_a6 rfl | exact lk_a7 rfl | exact lk_a8 rfl | exact lk_a rfl); (focus first | exact lk_m1 rfl | exact lk_m2 rfl | exact lk_m3 rfl | exact lk_o rfl | exact lk_a2 rfl | exact lk_a3 rfl | exact lk_a4 rfl | exact lk_a1 rfl | exact lk_a5 rfl | exact lk_a6 rfl | exact lk_a7 rfl | exact lk_a8 rfl | exact lk_a rfl); (focus first | exact lk_m1 rfl | exact lk_m2 rfl | exact lk_m3 rfl | exact lk_o rfl | exact lk_a2 rfl | exact lk_a3 rfl | exact lk_a4 rfl | exact lk_a1 rfl | exact lk_a5 rfl | exact lk_a6 rfl | exact lk_a7 rfl | exact lk_a8 rfl | exact lk_a rfl); (focus first | exact lk_m1 rfl | exact lk_m2 rfl | exact lk_m3 rfl | exact lk_o rfl | exact lk_a2 rfl | exact lk_a3 rfl | exact lk_a4 rfl | exact lk_a1 rfl | exact lk_a5 rfl | exact lk_a6 rfl | exact lk_a7 rfl | exact lk_a8 rfl | exact lk_a rfl); (focus decide); (focus first | exact sn2 rfl | exact sn3 rfl | exact sn4 rfl | exact sn1 rfl | exact sn5 rfl | exact sn6 rfl | exact sn7 rfl | exact sn8 rfl | exact sn9 rfl | exact sn10 rfl | exact sn11 rfl | exact sn12 rfl | rfl); (focus rfl))
      | (apply gField; (focus rfl); first | exact lop_fieldAddr_p rfl rfl (by decide) rfl rfl | exact lop_fieldAddr_bx rfl rfl (by decide) rfl rfl)
            | (apply lop_bsa; (focus rfl); (focus exact inferInstance); (focus exact inferInstance); (focus exact inferInstance); (focus repeat' (first | exact All2.nil | (apply bs_cons; (focus rfl); (focus rfl); (focus rfl)))); (focus rfl); (focus decide); (focus first | decide | omega); (focus rfl); (focus rfl))
            | (apply lop_mfa1; (focus rfl); (focus rfl); (focus rfl); (focus rfl); (focus rfl); (focus rfl))
            | (apply lop_mfa2; (focus rfl); (focus rfl); (focus rfl); (focus rfl); (focus rfl); (focus rfl); (focus rfl); (focus rfl); (focus rfl); (focus decide); (focus rfl))
            | (apply lop_mfa3; (focus rfl); (focus rfl); (focus rfl); (focus rfl); (focus rfl); (focus rfl); (focus rfl); (focus rfl); (focus rfl); (focus rfl); (focus rfl); (focus rfl); (focus rfl); (focus decide); (focus decide); (focus decide); (focus rfl))
            | (apply gLoad; (focus rfl); apply lop_ld_bxp; (focus rfl); (focus exact inferInstance); (focus rfl); (focus rfl); (focus rfl); (focus rfl); (focus rfl))
      | (apply lop_call2; (focus rfl); (focus exact inferInstance); (focus first | exact lk_v8 (by assumption) rfl | exact lk_v8l rfl); (focus first | exact lk_v8 (by assumption) rfl | exact lk_v8l rfl); (focus exact inferInstance); (focus exact inferInstance); (focus first | exact True.intro | assumption | rfl | omega | ((repeat' (first | assumption | refine And.intro ?_ ?_ | omega | rfl)); done) | fail); (focus rfl))
      | fail) : LOp C o σ e ro := h
section steps
variable {C : Ctx} {ops : Array Oper} {o : Oper} {rest : List Oper} {K : St → Prop} {σ : St} {e : Eff} {ro : Nat → Bool} {W : List (Nat × Nat)} {i : Nat}
theorem rnC {d : Nat} (hk : RunN C ops rest K (e.app (some d) σ)) (hg : Guard ops σ o true := by first | exact gd_n rfl rfl | exact gd_t rfl rfl rfl rfl | exact gd_t rfl rfl rfl (by assumption)) (hd : o.dst = some d := by rfl) (h : LOp C o σ e ro := by exact lopC) : RunN C ops (o :: rest) K σ := rn_any hg hd h hk
theorem rkC {d : Nat} (hk : RunK C ops W (i + 1) rest K (e.app (some d) σ)) (hg : Guard ops σ o true := by first | exact gd_n rfl rfl | exact gd_t rfl rfl rfl rfl | exact gd_t rfl rfl rfl (by assumption)) (hd' : o.dst = some d := by rfl) (hd : dOk C o.dst = true := by rfl) (h : LOp C o σ e ro := by exact lopC)
    (hro : ∀ x, ro x = true → okObj ops W i x = true := by first | exact fun _ => ro_none | exact ro_one rfl | exact ro_k1 rfl | exact ro_one (by kernel_rfl) | exact ro_k1 (by kernel_rfl) | exact ro_kIn (by decide)) (hob : ∀ p ∈ e.obj, (i, p.1) ∈ W := by first | exact ob_none | exact ob_one (by decide) | decide) : RunK C ops W i (o :: rest) K σ := rk_wr hg hd' hd h hro hob hk
end steps
end Q5
open Q5
theorem as7_r (o : Op3) : PCall Tryz.prog 37 [opV o] (opV o) := by
  refine pcall_of Tryz.func37 rfl (fun w0 F S0 M0 => ?_)
  as_aux_lemma =>
    repeat' (first
        | refine rnC ?_
        | refine rnSB ?_
        | refine rnG ?_
        | refine rnU ?_
        | ((fail_if_success (refine rnKn ?_)); refine rnP ?_ ?_ <;> (intro hq; try (have hq' := hq; simp only [hqs] at hq')))
        | refine rkC ?_
        | refine rkSB ?_
        | refine rkF ?_
        | refine rkU ?_
        | ((fail_if_success (refine rkKn ?_)); refine rkP ?_ ?_ <;> (intro hq; try (have hq' := hq; simp only [hqs] at hq')))
        | refine stp ?_
        | refine aws_draws [] mixed (by kernel_rfl) ?_
        | refine ifT ?_
        | refine ifF ?_
        | (refine ifQ ?_ ?_ <;> (try (intro hn)))
        | (refine ifB ?_ ?_ <;> (intro hq; try (have hq' := hq; simp only [hqs] at hq'))))
    exact rc1 rfl rfl rfl rfl rfl rfl finL_p rfl
instance as7_i {o : Op3} : PC Tryz.prog 37 [opV o] True (opV o) := ⟨fun _ => as7_r o⟩
abbrev x6 (x : Evt) (ex : Bool) : List AC := [.p (.i x.1), .p (.i x.2.1), .p (.i x.2.2.1), .p (.i x.2.2.2.1.1), .p (.k .u64 x.2.2.2.1.2), .p (.sl 2 (x.2.2.2.2.map dR) ex)]
theorem of7_r (x : Evt) (ex : Bool) (h : x.2.2.2.2.length ≤ 1000000) : PCall Tryz.prog 41 [.a (x6 x ex)] (.a (x6 x false)) := by
  refine pcall_of Tryz.func41 rfl (fun w0 F S0 M0 => ?_)
  repeat' (first
      | refine rnC ?_
      | refine rnSB ?_
      | refine rnG ?_
      | refine rnU ?_
      | ((fail_if_success (refine rnKn ?_)); refine rnP ?_ ?_ <;> (intro hq; try (have hq' := hq; simp only [hqs] at hq')))
      | refine rkC ?_
      | refine rkSB ?_
      | refine rkF ?_
      | refine rkU ?_
      | ((fail_if_success (refine rkKn ?_)); refine rkP ?_ ?_ <;> (intro hq; try (have hq' := hq; simp only [hqs] at hq')))
      | refine stp ?_
      | refine ifT ?_
      | refine ifF ?_
      | (refine ifQ ?_ ?_ <;> (try (intro hn)))
      | (refine ifB ?_ ?_ <;> (intro hq; try (have hq' := hq; simp only [hqs] at hq'))))
  refine aws_draws [(13, 2)] mixed (by kernel_rfl) ?_
  repeat' (first
      | refine rk_nil ?_
      | refine rkC ?_
      | refine rkSB ?_
      | refine rkF ?_
      | refine rkU ?_
      | ((fail_if_success (refine rkKn ?_)); refine rkP ?_ ?_ <;> (intro hq; try (have hq' := hq; simp only [hqs] at hq'))))
  as_aux_lemma =>
    repeat' (first
        | refine rnC ?_
        | refine rnSB ?_
        | refine rnG ?_
        | refine rnU ?_
        | ((fail_if_success (refine rnKn ?_)); refine rnP ?_ ?_ <;> (intro hq; try (have hq' := hq; simp only [hqs] at hq')))
        | refine rkC ?_
        | refine rkSB ?_
        | refine rkF ?_
        | refine rkU ?_
        | ((fail_if_success (refine rkKn ?_)); refine rkP ?_ ?_ <;> (intro hq; try (have hq' := hq; simp only [hqs] at hq')))
        | refine stp ?_
        | refine ifT ?_
        | refine ifF ?_
        | (refine ifQ ?_ ?_ <;> (try (intro hn)))
        | (refine ifB ?_ ?_ <;> (intro hq; try (have hq' := hq; simp only [hqs] at hq'))))
    exact rc1 rfl rfl rfl rfl rfl rfl finL_p rfl
theorem same7_r (x : Evt) (ex ey : Bool) (h : x.2.2.2.2.length ≤ 1000000000) : PCall Tryz.prog 40 [.a (x6 x ex), .a (x6 x ey)] (.p (.b true)) := by
  refine pcall_of Tryz.func40 rfl (fun w0 F S0 M0 => ?_)
  obtain ⟨k, i, q, d, l⟩ := x
  dsimp only at h ⊢
  have e1 : decide (k = k) = true := decide_eq_true rfl
  have e2 : decide (i = i) = true := decide_eq_true rfl
  have e3 : decide (q = q) = true := decide_eq_true rfl
  have e4 := vEqD d d
  rw [decide_eq_true rfl] at e4
  have e5 : decide (l = l) = true := decide_eq_true rfl
  as_aux_lemma =>
    repeat' (first
        | refine rnC ?_
        | refine rnSB ?_
        | refine rnG ?_
        | refine rnU ?_
        | ((fail_if_success (refine rnKn ?_)); refine rnP ?_ ?_ <;> (intro hq; try (have hq' := hq; simp only [hqs] at hq')))
        | refine rkC ?_
        | refine rkSB ?_
        | refine rkF ?_
        | refine rkU ?_
        | ((fail_if_success (refine rkKn ?_)); refine rkP ?_ ?_ <;> (intro hq; try (have hq' := hq; simp only [hqs] at hq')))
        | refine stp ?_
        | refine aws_draws [] mixed (by kernel_rfl) ?_
        | refine ifT ?_
        | refine ifF ?_
        | (refine ifQ ?_ ?_ <;> (try (intro hn)))
        | (refine ifB ?_ ?_ <;> (intro hq; try (have hq' := hq; simp only [hqs] at hq'))))
    exact rt1 rfl rfl finS_p (rb e5.symm)
end Go.Proofs.YtpmobjnaiaogbaaGreat.Cq
namespace Go.Proofs.YtpmobjnaiaogbaaGreat.Cz
open Go Go.RowKit Go.Aw Go.Aw.Cart Go.Aw.Ord Go.Proofs.YtpmobjnaiaogbaaGreat.Ca Go.Proofs.YtpmobjnaiaogbaaGreat.Cq.Q5
set_option linter.unusedVariables false
set_option linter.unusedSimpArgs false
set_option maxRecDepth 8000
set_option maxHeartbeats 4000000
theorem doF_few {c : Crt} {nd : Int} {o : Op3} (hc : c.1.length = 8) (hl : c.2.length ≤ 60) : (doF c nd o).1.1.1.length = 8 ∧ (doF c nd o).1.1.2.length ≤ 1000 ∧ (doF c nd o).1.2.2.2.2.2.length ≤ 2000 := by
  have hs : (stL o c.2).length ≤ c.2.length := List.length_filter_le _ _
  have ho : (offF o c.2).length ≤ 2000 := by unfold offF liveF; rw [dotsOf_is]; exact List.length_take_le _ _
  have hz : (zeroV : List Int).length = 8 := rfl
  have hn : (sortE (stL o c.2 ++ [newE c.1 nd o])).length ≤ 1000 := by rw [sortE_len, List.length_append, List.length_singleton]; omega
  have hw : (withF c.1 (newD c.1 nd)).length = 8 := by rw [withF_len]; exact hc
  have hs2 : (stL o c.2).length ≤ 1000 := by omega
  unfold doF
  repeat' split
  all_goals refine ⟨?_, ?_, ?_⟩
  all_goals first | exact hz | exact hc | exact hw | exact hs2 | exact hn | exact ho | exact Nat.zero_le _
theorem editDoes_w (v : List Int) (l : List Ent) (ex : Bool) (nd : Int) (o : Op3) (hv : v.length = 8) (hb : ∀ n ∈ v, 0 ≤ n ∧ n < 18446744073709551616) (MAY : ∀ o : Op3, PCall Tryz.prog 39 [opV o] (.p (.b (mayF o)))) (DO : l.length ≤ 1000000 → PCall Tryz.prog 36 [cV v l false, .p (.i nd), opV o] (.tup [.agg (cL (doF (v, l) nd o).1.1.1 (doF (v, l) nd o).1.1.2 false), .agg (Cq.y6 (doF (v, l) nd o).1.2), .one (.p (.i (doF (v, l) nd o).2))])) : PCall Tryz.prog 4 [cV v l ex, .p (.i nd), opV o] (.p (.b true)) := by
  refine pcall_of Tryz.func4 rfl (fun w0 F S0 M0 => ?_)
  by_cases hg : 60 < l.length
  · have d1 : decide (60 < (l.length : Int)) = true := decide_eq_true (by omega)
    as_aux_lemma =>
      repeat' (first
          | refine rnC ?_
          | refine rnSB ?_
          | refine rnG ?_
          | refine rnU ?_
          | ((fail_if_success (refine rnKn ?_)); refine rnP ?_ ?_ <;> (intro hq; try (have hq' := hq; simp only [hqs] at hq')))
          | refine rkC ?_
          | refine rkSB ?_
          | refine rkF ?_
          | refine rkU ?_
          | ((fail_if_success (refine rkKn ?_)); refine rkP ?_ ?_ <;> (intro hq; try (have hq' := hq; simp only [hqs] at hq')))
          | refine stp ?_
          | refine aws_draws [] mixed (by kernel_rfl) ?_
          | refine ifT ?_
          | refine ifF ?_
          | (refine ifQ ?_ ?_ <;> (try (intro hn)))
          | (refine ifB ?_ ?_ <;> (intro hq; try (have hq' := hq; simp only [hqs] at hq'))))
      exact rt1 rfl rfl finS_p rfl
  · have d1 : decide (60 < (l.length : Int)) = false := decide_eq_false (by omega)
    have cd := do_w v l ex nd o hv hb (by omega)
    have c7 := DO (by omega)
    have cA := Cr.as_r v l ex (by omega)
    have FW := @doF_few (v, l) nd o hv (by show l.length ≤ 60; omega)
    generalize doF (v, l) nd o = r at cd c7 FW
    obtain ⟨⟨⟨dv, dl⟩, ⟨xk, xi, xq, xd, xo⟩⟩, e⟩ := r
    dsimp only at cd c7 FW
    obtain ⟨g1, g2, g3⟩ := FW
    have cB := Cr.as_r dv dl false (by omega)
    have cS := Cr.same_r dv dv dl dl false false g1 g1 (by omega)
    rw [show sameF dv dv dl dl = true by simp [sameF]] at cS
    have cO := Cq.of7_r (xk, xi, xq, xd, xo) false (by show xo.length ≤ 1000000; omega)
    have cX := Cq.same7_r (xk, xi, xq, xd, xo) false false (by show xo.length ≤ 1000000000; omega)
    haveI : PC Tryz.prog 39 [opV o] True (.p (.b (mayF o))) := ⟨fun _ => MAY o⟩
    haveI : PC Tryz.prog 35 [cV v l ex, .p (.i nd), opV o] True (.tup [.agg (cL dv dl false), .agg [.p (.i xk), .p (.i xi), .p (.i xq), .p (.i xd.1), .p (.k .u64 xd.2), .p (.sl 2 (xo.map dR) false)], .one (.p (.i e))]) := ⟨fun _ => cd⟩
    haveI : PC Tryz.prog 36 [cV v l false, .p (.i nd), opV o] True (.tup [.agg (cL dv dl false), .agg [.p (.i xk), .p (.i xi), .p (.i xq), .p (.i xd.1), .p (.k .u64 xd.2), .p (.sl 2 (xo.map dR) false)], .one (.p (.i e))]) := ⟨fun _ => c7⟩
    haveI : PC Tryz.prog 7 [cV v l ex] True (cV v l false) := ⟨fun _ => cA⟩
    haveI : PC Tryz.prog 7 [cV dv dl false] True (cV dv dl false) := ⟨fun _ => cB⟩
    haveI : PC Tryz.prog 13 [cV dv dl false, cV dv dl false] True (.p (.b true)) := ⟨fun _ => cS⟩
    haveI : PC Tryz.prog 41 [.a [.p (.i xk), .p (.i xi), .p (.i xq), .p (.i xd.1), .p (.k .u64 xd.2), .p (.sl 2 (xo.map dR) false)]] True (.a [.p (.i xk), .p (.i xi), .p (.i xq), .p (.i xd.1), .p (.k .u64 xd.2), .p (.sl 2 (xo.map dR) false)]) := ⟨fun _ => cO⟩
    haveI : PC Tryz.prog 40 [.a [.p (.i xk), .p (.i xi), .p (.i xq), .p (.i xd.1), .p (.k .u64 xd.2), .p (.sl 2 (xo.map dR) false)], .a [.p (.i xk), .p (.i xi), .p (.i xq), .p (.i xd.1), .p (.k .u64 xd.2), .p (.sl 2 (xo.map dR) false)]] True (.p (.b true)) := ⟨fun _ => cX⟩
    have n1 : (mayF o == mayF o) = true := beq_self_eq_true _
    have n2 : decide (e = e) = true := decide_eq_true rfl
    clear cd c7 cA cB cS cO cX MAY DO
    repeat' (first
        | refine rnC ?_
        | refine rnSB ?_
        | refine rnG ?_
        | refine rnU ?_
        | refine rkC ?_
        | refine rkSB ?_
        | refine rkF ?_
        | refine rkU ?_
        | refine stp ?_
        | refine ifT ?_
        | refine ifF ?_
        | fail)
    refine aws_draws [(10, 10), (11, 11), (12, 10), (13, 11)] mixed (by kernel_rfl) ?_
    repeat' (first
        | refine rk_nil ?_
        | refine rkC ?_
        | refine rkSB ?_
        | refine rkF ?_
        | refine rkU ?_
        | ((fail_if_success (refine rkKn ?_)); refine rkP ?_ ?_ <;> (intro hq; try (have hq' := hq; simp only [hqs] at hq'))))
    as_aux_lemma =>
      repeat' (first
          | refine rnC ?_
          | refine rnSB ?_
          | refine rnG ?_
          | refine rnU ?_
          | refine rkC ?_
          | refine rkSB ?_
          | refine rkF ?_
          | refine rkU ?_
          | refine stp ?_
          | refine aws_draws [] mixed (by kernel_rfl) ?_
          | refine ifT ?_
          | refine ifF ?_
          | fail)
      exact rt1 rfl rfl finS_p (rb n2.symm)
end Go.Proofs.YtpmobjnaiaogbaaGreat.Cz
namespace Go.Proofs.YtpmobjnaiaogbaaGreat.Cq
open Go Go.RowKit Go.Aw Go.Aw.Cart Go.Aw.Ord Go.Proofs.YtpmobjnaiaogbaaGreat.Ca
set_option linter.unusedVariables false
set_option linter.unusedSimpArgs false
set_option maxRecDepth 8000
set_option maxHeartbeats 8000000
theorem do7_r (MAY : ∀ o : Op3, PCall Tryz.prog 39 [opV o] (.p (.b (mayF o)))) (STAYS : ∀ (e : Ent) (o : Op3), mayF o = true → PCall Tryz.prog 66 [eV e, opV o] (.p (.b (!goneF o e)))) (v : List Int) (l : List Ent) (ex : Bool) (nd : Int) (o : Op3) (hv : v.length = 8) (hb : ∀ n ∈ v, 0 ≤ n ∧ n < 18446744073709551616) (hl : l.length ≤ 1000000) : PCall Tryz.prog 36 [cV v l ex, .p (.i nd), opV o] (.tup [.agg (cL (doF (v, l) nd o).1.1.1 (doF (v, l) nd o).1.1.2 false), .agg (y6 (doF (v, l) nd o).1.2), .one (.p (.i (doF (v, l) nd o).2))]) := by
  cases hr : rightF v l with
  | false => exact do7_a MAY STAYS v l ex nd o hv hb hl (.inl hr)
  | true =>
    cases hm : mayF o with
    | false => exact do7_a MAY STAYS v l ex nd o hv hb hl (.inr (.inl hm))
    | true =>
      cases hn : nodeF nd with
      | false => exact do7_a MAY STAYS v l ex nd o hv hb hl (.inr (.inr hn))
      | true =>
        by_cases hk : 2 < o.1
        · exact do7_b MAY STAYS v l ex nd o hv hb hl hr hm hn hk
        · by_cases hq : getF v nd ≠ 18446744073709551615 → 40 ≤ (stL o l).length
          · exact do7_c MAY STAYS v l ex nd o hv hb hl hr hm hn hk hq
          · exact do7_d MAY STAYS v l ex nd o hv hb hl hr hm hn hk (fun k => hq fun q => absurd k q) (fun k => hq fun _ => k)
end Go.Proofs.YtpmobjnaiaogbaaGreat.Cq
namespace Go.Proofs.YtpmobjnaiaogbaaGreat.Ca
open Go Go.RowKit Go.Aw Go.Aw.Cart
set_option linter.unusedVariables false
set_option linter.unusedSimpArgs false
theorem rd_op : Reads Tryz.prog 72 Op3 (fun o => opR o) (fun _ => True) :=
  (reads_struct (inferInstance : TI Tryz.prog 72 _ _ _)
    (readsFs_cons (inferInstance : TI Tryz.prog 3 _ _ _) rd_int (readsFs_cons (inferInstance : TI Tryz.prog 3 _ _ _) rd_int (readsFs_cons (inferInstance : TI Tryz.prog 3 _ _ _) rd_int (readsFs_nil rfl))))).imp
    (fun x => (x.1, x.2.1, x.2.2.1)) (fun x => rfl) (fun x h => trivial)
end Go.Proofs.YtpmobjnaiaogbaaGreat.Ca
namespace Go.Proofs.YtpmobjnaiaogbaaGreat.Ca
open Go Go.RowKit Go.Aw Go.Aw.Cart
set_option linter.unusedVariables false
set_option linter.unusedSimpArgs false
theorem editDoes_a (x : Crt) (nd : Int) (o : Op3) (h : CIn x) : PCall Tryz.prog 4 [argAV true (cRow x), argAV false [.i nd], argAV true (opR o)] (.p (.b true)) := by
  rw [c_arg h]; exact Cz.editDoes_w x.1 x.2 false nd o h.v8 h.vb Cq.may7_r fun k => Cq.do7_r Cq.may7_r Cq.stays_r x.1 x.2 false nd o h.v8 h.vb k
end Go.Proofs.YtpmobjnaiaogbaaGreat.Ca
