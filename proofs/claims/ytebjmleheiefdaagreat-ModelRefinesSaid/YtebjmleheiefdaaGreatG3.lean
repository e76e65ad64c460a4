/- edits: which entries stay, and which dots go; what an op does; edits: what an op does: its parts; edits: what an op does, kind by kind: 1; edits: what an op does, kind by kind: 2; edits: what an op does, kind by kind: 3; edits: what an op does; edits: maundlaw07.alive -/
import Derived.Test.YtebjmleheiefdaaGreatG2
import Derived.Test.YtebjmleheiefdaaGreatKw
import Derived.Test.YtebjmleheiefdaaGreatCj3
import Derived.Test.YtebjmleheiefdaaGreatCaV
import Derived.Test.YtebjmleheiefdaaGreatCd1
namespace Go.Proofs.YtebjmleheiefdaaGreat.Ca
open Go Go.RowKit Go.Aw Go.Aw.Cart Go.Aw.Ord Go.Sort
set_option linter.unusedVariables false
set_option linter.unusedSimpArgs false
set_option maxRecDepth 8000
set_option maxHeartbeats 4000000
namespace E4
theorem lopC {C : Ctx} {o : Oper} {σ : St} {e : Eff} {ro : Nat → Bool} (h : LOp C o σ e ro := by
    first | (apply lop_bst4; (focus rfl); (focus exact inferInstance); (focus exact inferInstance); (focus exact inferInstance); (focus rfl); (focus rfl); (focus rfl)) | (apply lop_ap_ent; (focus rfl); (focus exact inferInstance); (focus exact inferInstance); (focus exact inferInstance); (focus rfl); (focus rfl); (focus rfl); (focus rfl); (focus rfl); (focus rfl); (focus first | (simp only [maxLen, List.length_append, List.length_cons, List.length_nil, List.length_take, List.length_drop, List.length_map]; omega) | omega); (focus first | (simp only [maxLen, List.length_append, List.length_cons, List.length_nil, List.length_take, List.length_drop, List.length_map]; omega) | omega); (focus rfl)) | (apply D2.lop_bzE; (focus rfl); (focus exact inferInstance); (focus exact inferInstance); (focus exact inferInstance); (focus rfl); (focus rfl); (focus rfl); (focus rfl)) | exact lop_mfz1 rfl rfl rfl rfl rfl | (apply lop_build5; (focus rfl); (focus exact inferInstance); (focus exact inferInstance); (focus first | exact lk_m1 rfl | exact lk_m2 rfl | exact lk_m3 rfl | exact lk_o rfl | exact lk_a2 rfl | exact lk_a3 rfl | exact lk_a4 rfl | exact lk_a1 rfl | exact lk_a5 rfl | exact lk_a6 rfl | exact lk_a7 rfl | exact lk_a8 rfl | exact lk_a rfl); (focus first | exact lk_m1 rfl | exact lk_m2 rfl | exact lk_m3 rfl | exact lk_o rfl | exact lk_a2 rfl | exact lk_a3 rfl | exact lk_a4 rfl | exact lk_a1 rfl | exact lk_a5 rfl | exact lk_a6 rfl | exact lk_a7 rfl | exact lk_a8 rfl | exact lk_a rfl); (focus first | exact lk_m1 rfl | exact lk_m2 rfl | exact lk_m3 rfl | exact lk_o rfl | exact lk_a2 rfl | exact lk_a3 rfl | exact lk_a4 rfl | exact lk_a1 rfl | exact lk_a5 rfl | exact lk_a6 rfl | exact lk_a7 rfl | exact lk_a8 rfl | exact lk_a rfl); (focus first | exact lk_m1 rfl | exact lk_m2 rfl | exact lk_m3 rfl | exact lk_o rfl | exact lk_a2 rfl | exact lk_a3 rfl | exact lk_a4 rfl | exact lk_a1 rfl | exact lk_a5 rfl | exact lk_a6 rfl | exact lk_a7 rfl | exact lk_a8 rfl | exact lk_a rfl); (focus first | exact lk_m1 rfl | exact lk_m2 rfl | exact lk_m3 rfl | exact lk_o rfl | exact lk_a2 rfl | exact lk_a3 rfl | exact lk_a4 rfl | exact lk_a1 rfl | exact lk_a5 rfl | exact lk_a6 rfl | exact lk_a7 rfl | exact lk_a8 rfl | exact lk_a rfl); (focus decide); (focus first | exact sn2 rfl | exact sn3 rfl | exact sn4 rfl | exact sn1 rfl | exact sn5 rfl | exact sn6 rfl | exact sn7 rfl | exact sn8 rfl | exact sn9 rfl | exact sn10 rfl | exact sn11 rfl | exact sn12 rfl | rfl); (focus rfl)) | (apply gField; (focus rfl); first | exact lop_fieldAddr_p rfl rfl (by decide) rfl rfl | exact lop_fieldAddr_bx rfl rfl (by decide) rfl rfl) | (apply lop_bsa; (focus rfl); (focus exact inferInstance); (focus exact inferInstance); (focus exact inferInstance); (focus repeat' (first | exact All2.nil | (apply bs_cons; (focus rfl); (focus rfl); (focus rfl)))); (focus rfl); (focus decide); (focus first | decide | omega); (focus rfl); (focus rfl)) | (apply lop_mfa1; (focus rfl); (focus rfl); (focus rfl); (focus rfl); (focus rfl); (focus rfl)) | (apply lop_mfa2; (focus rfl); (focus rfl); (focus rfl); (focus rfl); (focus rfl); (focus rfl); (focus rfl); (focus rfl); (focus rfl); (focus decide); (focus rfl)) | (apply lop_mfa3; (focus rfl); (focus rfl); (focus rfl); (focus rfl); (focus rfl); (focus rfl); (focus rfl); (focus rfl); (focus rfl); (focus rfl); (focus rfl); (focus rfl); (focus rfl); (focus decide); (focus decide); (focus decide); (focus rfl)) | (apply gLoad; (focus rfl); apply lop_ld_bxp; (focus rfl); (focus exact inferInstance); (focus rfl); (focus rfl); (focus rfl); (focus rfl); (focus rfl)) | exact lopV | (apply lop_call1; (focus rfl); (focus exact inferInstance); (focus exact lk_cart rfl); (focus exact inferInstance); (focus exact inferInstance); (focus first | exact True.intro | assumption | rfl | omega | ((repeat' (first | assumption | refine And.intro ?_ ?_ | omega | rfl)); done) | fail); (focus rfl)) | (apply lop_call2; (focus rfl); (focus exact inferInstance); (focus exact lk_cart rfl); (focus exact lk_cart rfl); (focus exact inferInstance); (focus exact inferInstance); (focus first | exact True.intro | assumption | rfl | omega | ((repeat' (first | assumption | refine And.intro ?_ ?_ | omega | rfl)); done) | fail); (focus rfl)) | (apply lop_call2; (focus rfl); (focus exact inferInstance); (focus exact lk_cart rfl); (focus first | exact lk_m1 rfl | exact lk_m2 rfl | exact lk_m3 rfl | exact lk_o rfl | exact lk_a2 rfl | exact lk_a3 rfl | exact lk_a4 rfl | exact lk_a1 rfl | exact lk_a5 rfl | exact lk_a6 rfl | exact lk_a7 rfl | exact lk_a8 rfl | exact lk_a rfl); (focus exact inferInstance); (focus exact inferInstance); (focus first | exact True.intro | assumption | rfl | omega | ((repeat' (first | assumption | refine And.intro ?_ ?_ | omega | rfl)); done) | fail); (focus rfl)) | fail) : LOp C o σ e ro := h
section steps
variable {C : Ctx} {ops : Array Oper} {o : Oper} {rest : List Oper} {K : St → Prop} {σ : St} {e : Eff} {ro : Nat → Bool} {W : List (Nat × Nat)} {i : Nat}
theorem rnC {d : Nat} (hk : RunN C ops rest K (e.app (some d) σ)) (hg : Guard ops σ o true := by first | exact gd_n rfl rfl | exact gd_t rfl rfl rfl rfl | exact gd_t rfl rfl rfl (by assumption)) (hd : o.dst = some d := by rfl) (h : LOp C o σ e ro := by exact lopC) : RunN C ops (o :: rest) K σ := rn_any hg hd h hk
theorem rkC {d : Nat} (hk : RunK C ops W (i + 1) rest K (e.app (some d) σ)) (hg : Guard ops σ o true := by first | exact gd_n rfl rfl | exact gd_t rfl rfl rfl rfl | exact gd_t rfl rfl rfl (by assumption)) (hd' : o.dst = some d := by rfl) (hd : dOk C o.dst = true := by rfl) (h : LOp C o σ e ro := by exact lopC)
    (hro : ∀ x, ro x = true → okObj ops W i x = true := by first | exact fun _ => ro_none | exact ro_one rfl | exact ro_k1 rfl | exact ro_one (by kernel_rfl) | exact ro_k1 (by kernel_rfl) | exact ro_kIn (by decide)) (hob : ∀ p ∈ e.obj, (i, p.1) ∈ W := by first | exact ob_none | exact ob_one (by decide) | decide) : RunK C ops W i (o :: rest) K σ := rk_wr hg hd' hd h hro hob hk
end steps
end E4
open E4
/-- what is cloned is an own slice, be it empty -/
theorem cloneA_o (l : List Ent) (ex : Bool) (h : l.length ≤ 1000000000) : OCall Tryz.prog 106 [.p (.sl 4 (l.map eR) ex)] (fun _ => (0, none)) (.o (.osl 5 1 4 0 l.length)) (memL [(5, (2, some (.buf 119 4 (l.map eR))))]) := by
  refine ocall_ofF 5 Tryz.func106 rfl (fun w0 F S0 M0 => ?_)
  repeat' (first | refine rnC ?_ | refine rnSQ ?_ | refine rnG ?_ | refine rnU ?_ | ((fail_if_success (refine rnKn ?_)); refine rnP ?_ ?_ <;> (intro hq; try (have hq' := hq; simp only [hqs] at hq'))) | refine rkC ?_ | refine rkSQ ?_ | refine rkF ?_ | refine rkU ?_ | ((fail_if_success (refine rkKn ?_)); refine rkP ?_ ?_ <;> (intro hq; try (have hq' := hq; simp only [hqs] at hq'))) | refine stpR ?_ | refine ifT ?_ | refine ifF ?_ | (refine ifQ ?_ ?_ <;> (try (intro hn))) | (refine ifB ?_ ?_ <;> (intro hq; try (have hq' := hq; simp only [hqs] at hq'))))
  · have e : l = [] := List.eq_nil_of_length_eq_zero (by have := congrArg List.length hn; rwa [List.length_map, List.length_nil] at this)
    subst e
    refine aws_says (says_bump (o := 5) (ty := 119) (es := 4) rfl (by decide)) ?_
    refine aws_says (says_nil (t := 2) (o := 5) (ty := 119) (es := 4) rfl rfl (by decide)) ?_
    as_aux_lemma =>
      repeat' (first | refine rnC ?_ | refine rnSQ ?_ | refine rnG ?_ | refine rnU ?_ | ((fail_if_success (refine rnKn ?_)); refine rnP ?_ ?_ <;> (intro hq; try (have hq' := hq; simp only [hqs] at hq'))) | refine rkC ?_ | refine rkSQ ?_ | refine rkF ?_ | refine rkU ?_ | ((fail_if_success (refine rkKn ?_)); refine rkP ?_ ?_ <;> (intro hq; try (have hq' := hq; simp only [hqs] at hq'))) | refine stp ?_ | refine ifT ?_ | refine ifF ?_ | (refine ifQ ?_ ?_ <;> (try (intro hn))) | (refine ifB ?_ ?_ <;> (intro hq; try (have hq' := hq; simp only [hqs] at hq'))))
      exact RetO.mk (ot1 rfl rfl (.one (.kosl rfl)) rfl) ⟨.buf, trivial⟩
  · repeat' (first | refine rnC ?_ | refine rnSQ ?_ | refine rnG ?_ | refine rnU ?_ | ((fail_if_success (refine rnKn ?_)); refine rnP ?_ ?_ <;> (intro hq; try (have hq' := hq; simp only [hqs] at hq'))) | refine rkC ?_ | refine rkSQ ?_ | refine rkF ?_ | refine rkU ?_ | ((fail_if_success (refine rkKn ?_)); refine rkP ?_ ?_ <;> (intro hq; try (have hq' := hq; simp only [hqs] at hq'))) | refine stp ?_ | refine ifT ?_ | refine ifF ?_ | (refine ifQ ?_ ?_ <;> (try (intro hn))) | (refine ifB ?_ ?_ <;> (intro hq; try (have hq' := hq; simp only [hqs] at hq'))))
    exact RetO.mk (ot1 rfl rfl (.one (.kosl rfl)) rfl) ⟨.buf, trivial⟩
instance (priority := high) cloneA {c k : Nat} {l : List Ent} {ex : Bool} : OC Tryz.prog 106 [.p (.sl 4 (l.map eR) ex)] [] [(c, k)] (l.length ≤ 1000000000) (.o (.osl c (k + 1) 4 0 l.length)) [(c, (k + 2, some (.buf 119 4 (l.map eR))))] := ⟨fun h => (cloneA_o l ex h).fresh1 c k⟩
theorem split_o (v : List Int) (l : List Ent) (ex : Bool) (o : Op3) (h : l.length ≤ 1000000) : OCall Tryz.prog 66 [cV v l ex, opV o] (fun _ => (0, none)) (.tup [.one (.osl 10 1 4 0 (stL o l).length), .one (.p (.sl 2 ((offF o l).map dR) false))]) (memL [(10, (2, some (.buf 119 4 ((stL o l).map eR))))]) := by
  refine ocall_ofF 10 Tryz.func66 rfl (fun w0 F S0 M0 => ?_)
  have h2 : l.length ≤ 1000000000 := by omega
  have h3 : (l.filter fun e => !(!goneF o e)) = goL o l := by
    unfold goL
    refine List.filter_congr fun e _ => ?_
    rw [Bool.not_not]
  have h4 : (goL o l).length ≤ 1000000 := Nat.le_trans (List.length_filter_le _ _) h
  repeat' (first | refine rnC ?_ | refine rnSB ?_ | refine rnG ?_ | refine rnU ?_ | ((fail_if_success (refine rnKn ?_)); refine rnP ?_ ?_ <;> (intro hq; try (have hq' := hq; simp only [hqs] at hq'))) | refine rkC ?_ | refine rkSB ?_ | refine rkF ?_ | refine rkU ?_ | ((fail_if_success (refine rkKn ?_)); refine rkP ?_ ?_ <;> (intro hq; try (have hq' := hq; simp only [hqs] at hq'))) | refine stp ?_ | refine aws_draws [] mixed (by kernel_rfl) ?_ | refine ifT ?_ | refine ifF ?_ | (refine ifQ ?_ ?_ <;> (try (intro hn))) | (refine ifB ?_ ?_ <;> (intro hq; try (have hq' := hq; simp only [hqs] at hq'))))
  refine rn_says (says_frz_a (t := 20) (o := 15) (k := 8) (ds := cL zeroV (goL o l) false) rfl rfl ?_ rfl rfl (by rw [List.length_map])) rfl ?_
  · rw [h3]; rfl
  as_aux_lemma =>
    repeat' (first | refine rnC ?_ | refine rnSB ?_ | refine rnG ?_ | refine rnU ?_ | ((fail_if_success (refine rnKn ?_)); refine rnP ?_ ?_ <;> (intro hq; try (have hq' := hq; simp only [hqs] at hq'))) | refine rkC ?_ | refine rkSB ?_ | refine rkF ?_ | refine rkU ?_ | ((fail_if_success (refine rkKn ?_)); refine rkP ?_ ?_ <;> (intro hq; try (have hq' := hq; simp only [hqs] at hq'))) | refine stp ?_ | refine aws_draws [] mixed (by kernel_rfl) ?_ | refine ifT ?_ | refine ifF ?_ | (refine ifQ ?_ ?_ <;> (try (intro hn))) | (refine ifB ?_ ?_ <;> (intro hq; try (have hq' := hq; simp only [hqs] at hq'))))
    exact RetO.mk (ot2 rfl rfl (.one (.kosl rfl)) rfl finS_p rfl) ⟨.buf, trivial⟩
instance {c k : Nat} {v : List Int} {l : List Ent} {ex : Bool} {o : Op3} : OC Tryz.prog 66 [cV v l ex, opV o] [] [(c, k)] (l.length ≤ 1000000) (.tup [.one (.osl c (k + 1) 4 0 (stL o l).length), .one (.p (.sl 2 ((offF o l).map dR) false))]) [(c, (k + 2, some (.buf 119 4 ((stL o l).map eR))))] := ⟨fun h => (split_o v l ex o h).fresh1 c k⟩
end Go.Proofs.YtebjmleheiefdaaGreat.Ca
namespace Go.Proofs.YtebjmleheiefdaaGreat.Ca
open Go Go.RowKit Go.Aw Go.Aw.Cart Go.Aw.Ord Go.Sort
set_option linter.unusedVariables false
set_option linter.unusedSimpArgs false
set_option maxRecDepth 8000
set_option maxHeartbeats 8000000
abbrev xL (x : Evt) : List AC := [.p (.i x.1), .p (.i x.2.1), .p (.i x.2.2.1), .p (.i x.2.2.2.1.1), .p (.k .u64 x.2.2.2.1.2), .p (.sl 2 (x.2.2.2.2.map dR) false)]
theorem fin6 {σ : St} {K : Nat → Bool} {p0 p1 p2 p3 p4 : PVal} : All2 (FinC σ K) [.p p0, .p p1, .p p2, .p p3, .p p4, .p (.v (.slice none 0 0))] [.p p0, .p p1, .p p2, .p p3, .p p4, .p (.sl 2 (([] : List Dot).map dR) false)] :=
  .cons .p (.cons .p (.cons .p (.cons .p (.cons .p (.cons .nil .nil)))))
end Go.Proofs.YtebjmleheiefdaaGreat.Ca
namespace Go.Proofs.YtebjmleheiefdaaGreat.Ca
open Go Go.RowKit Go.Aw Go.Aw.Cart Go.Aw.Ord Go.Sort
set_option linter.unusedVariables false
set_option linter.unusedSimpArgs false
set_option maxRecDepth 8000
set_option maxHeartbeats 8000000
open E4
theorem do_w1 (v : List Int) (l : List Ent) (ex : Bool) (nd : Int) (o : Op3) (hv : v.length = 8) (hb : ∀ n ∈ v, 0 ≤ n ∧ n < 18446744073709551616) (hl : l.length ≤ 1000000) (hk : o.1 = 1) : PCall Tryz.prog 33 [cV v l ex, .p (.i nd), opV o] (.tup [.agg (cL (doF (v, l) nd o).1.1.1 (doF (v, l) nd o).1.1.2 false), .agg (xL (doF (v, l) nd o).1.2), .one (.p (.i (doF (v, l) nd o).2))]) := by
  refine pcall_of Tryz.func33 rfl (fun w0 F S0 M0 => ?_)
  have hl2 : l.length ≤ 1000000000 := by omega
  have sl : (stL o l).length ≤ 1000000 := Nat.le_trans (List.length_filter_le _ _) hl
  have nx := next_w v nd hv hb
  obtain ⟨D, E, hDE⟩ : ∃ D E, nextF v nd = (D, E) := ⟨_, _, rfl⟩
  have hE : (nodeF nd = false → E = 11) ∧ (nodeF nd = true → E ≠ 11) ∧ (nodeF nd = true → getF v nd = 18446744073709551615 → E = 13) ∧ (nodeF nd = true → getF v nd ≠ 18446744073709551615 → E = 0 ∧ D = newD v nd) := by
    unfold nextF at hDE
    cases hn : nodeF nd with
    | false =>
      rw [if_pos hn] at hDE
      obtain ⟨rfl, rfl⟩ := Prod.mk.inj hDE
      simp
    | true =>
      rw [if_neg (by rw [hn]; simp)] at hDE
      by_cases hm : getF v nd = 18446744073709551615
      · rw [if_pos hm] at hDE
        obtain ⟨rfl, rfl⟩ := Prod.mk.inj hDE
        simp [hm]
      · rw [if_neg hm] at hDE
        obtain ⟨rfl, rfl⟩ := Prod.mk.inj hDE
        simp [hm, newD]
  obtain ⟨hE1, hE2, hE3, hE4⟩ := hE
  rw [hDE] at nx
  simp only at nx
  haveI : PC Tryz.prog 65 [vV v, .p (.i nd)] True (.tup [.agg (dL D), .one (.p (.i E))]) := ⟨fun _ => nx⟩
  clear nx hDE
  · have d1 : decide (o.1 = 1) = true := decide_eq_true hk
    have ha : addsF o = true := decide_eq_true (by omega)
    repeat' (first | refine rnC ?_ | refine rnSB ?_ | refine rnG ?_ | refine rnU ?_ | refine rkC ?_ | refine rkSB ?_ | refine rkF ?_ | refine rkU ?_ | refine stp ?_ | refine aws_draws [] mixed (by kernel_rfl) ?_ | refine ifT ?_ | refine ifF ?_ | fail)
    refine aws_says (says_is (t := 13) (v' := .p (.b true)) rfl (by first | rfl | exact congrArg (fun b => AV.p (PVal.b b)) d2)) ?_
    cases hr : rightF v l with
    | false =>
      have t1 : (!rightF v l) = true := by rw [hr]; rfl
      have ee : doF (v, l) nd o = (((zeroV, []), zeroE), 3) := by unfold doF; rw [if_pos hr]
      rw [ee]
      as_aux_lemma =>
        repeat' (first | refine rnC ?_ | refine rnSB ?_ | refine rnG ?_ | refine rnU ?_ | refine rkC ?_ | refine rkSB ?_ | refine rkF ?_ | refine rkU ?_ | refine stp ?_ | refine aws_draws [] mixed (by kernel_rfl) ?_ | refine ifT ?_ | refine ifF ?_ | fail)
        exact rcc3 rfl rfl rfl rfl rfl rfl fin9 rfl rfl rfl rfl rfl fin6 rfl finS_p rfl
    | true =>
      have t1 : (!rightF v l) = false := by rw [hr]; rfl
      repeat' (first | refine rnC ?_ | refine rnSB ?_ | refine rnG ?_ | refine rnU ?_ | refine rkC ?_ | refine rkSB ?_ | refine rkF ?_ | refine rkU ?_ | refine stp ?_ | refine aws_draws [] mixed (by kernel_rfl) ?_ | refine ifT ?_ | refine ifF ?_ | fail)
      cases hm : mayF o with
      | false =>
        have t2 : (!mayF o) = true := by rw [hm]; rfl
        have ee : doF (v, l) nd o = (((zeroV, []), zeroE), 1) := by unfold doF; rw [if_neg (by simp [hr]), if_pos hm]
        rw [ee]
        as_aux_lemma =>
          repeat' (first | refine rnC ?_ | refine rnSB ?_ | refine rnG ?_ | refine rnU ?_ | refine rkC ?_ | refine rkSB ?_ | refine rkF ?_ | refine rkU ?_ | refine stp ?_ | refine aws_draws [] mixed (by kernel_rfl) ?_ | refine ifT ?_ | refine ifF ?_ | fail)
          exact rcc3 rfl rfl rfl rfl rfl rfl fin9 rfl rfl rfl rfl rfl fin6 rfl finS_p rfl
      | true =>
        have t2 : (!mayF o) = false := by rw [hm]; rfl
        repeat' (first | refine rnC ?_ | refine rnSB ?_ | refine rnG ?_ | refine rnU ?_ | refine rkC ?_ | refine rkSB ?_ | refine rkF ?_ | refine rkU ?_ | refine stp ?_ | refine aws_draws [] mixed (by kernel_rfl) ?_ | refine ifT ?_ | refine ifF ?_ | fail)
        cases hn : nodeF nd with
        | false =>
          have e11 := hE1 hn
          subst e11
          have ee : doF (v, l) nd o = (((zeroV, []), zeroE), 11) := by unfold doF; rw [if_neg (by simp [hr]), if_neg (by simp [hm]), if_pos hn]
          rw [ee]
          as_aux_lemma =>
            repeat' (first | refine rnC ?_ | refine rnSB ?_ | refine rnG ?_ | refine rnU ?_ | refine rkC ?_ | refine rkSB ?_ | refine rkF ?_ | refine rkU ?_ | refine stp ?_ | refine aws_draws [] mixed (by kernel_rfl) ?_ | refine ifT ?_ | refine ifF ?_ | fail)
            exact rcc3 rfl rfl rfl rfl rfl rfl fin9 rfl rfl rfl rfl rfl fin6 rfl finS_p rfl
        | true =>
          have t3 : decide (E = 11) = false := decide_eq_false (hE2 hn)
          repeat' (first | refine rnC ?_ | refine rnSB ?_ | refine rnG ?_ | refine rnU ?_ | refine rkC ?_ | refine rkSB ?_ | refine rkF ?_ | refine rkU ?_ | refine stp ?_ | refine aws_draws [] mixed (by kernel_rfl) ?_ | refine ifT ?_ | refine ifF ?_ | fail)
          by_cases hx : getF v nd = 18446744073709551615
          · have e13 := hE3 hn hx
            subst e13
            have ee : doF (v, l) nd o = (((zeroV, []), zeroE), 13) := by unfold doF; rw [if_neg (by simp [hr]), if_neg (by simp [hm]), if_neg (by simp [hn]), if_neg (by simp [ha]), if_pos hx]
            rw [ee]
            as_aux_lemma =>
              repeat' (first | refine rnC ?_ | refine rnSB ?_ | refine rnG ?_ | refine rnU ?_ | refine rkC ?_ | refine rkSB ?_ | refine rkF ?_ | refine rkU ?_ | refine stp ?_ | refine aws_draws [] mixed (by kernel_rfl) ?_ | refine ifT ?_ | refine ifF ?_ | fail)
              exact rcc3 rfl rfl rfl rfl rfl rfl fin9 rfl rfl rfl rfl rfl fin6 rfl finS_p rfl
          · obtain ⟨e0, eD⟩ := hE4 hn hx
            clear hE1 hE2 hE3 hE4
            subst e0
            by_cases hs : 40 ≤ (stL o l).length
            · have t5 : decide (40 ≤ ((stL o l).length : Int)) = true := decide_eq_true (by omega)
              have ee : doF (v, l) nd o = (((zeroV, []), zeroE), 5) := by unfold doF; rw [if_neg (by simp [hr]), if_neg (by simp [hm]), if_neg (by simp [hn]), if_neg (by simp [ha]), if_neg hx, if_pos hs]
              rw [ee]
              as_aux_lemma =>
                repeat' (first | refine rnC ?_ | refine rnSB ?_ | refine rnG ?_ | refine rnU ?_ | refine rkC ?_ | refine rkSB ?_ | refine rkF ?_ | refine rkU ?_ | refine stp ?_ | refine aws_draws [] mixed (by kernel_rfl) ?_ | refine ifT ?_ | refine ifF ?_ | fail)
                exact rcc3 rfl rfl rfl rfl rfl rfl fin9 rfl rfl rfl rfl rfl fin6 rfl finS_p rfl
            · have t5 : decide (40 ≤ ((stL o l).length : Int)) = false := decide_eq_false (by omega)
              have ee : doF (v, l) nd o = (((withF v D, sortE (stL o l ++ [(o.2.1, D.1, D.2, o.2.2)])), (o.1, o.2.1, o.2.2, D, offF o l)), 0) := by unfold doF; rw [if_neg (by simp [hr]), if_neg (by simp [hm]), if_neg (by simp [hn]), if_neg (by simp [ha]), if_neg hx, if_neg hs, eD]; rfl
              rw [ee]
              have hal : (stL o l ++ [(o.2.1, D.1, D.2, o.2.2)]).length ≤ 1000000000 := by rw [List.length_append, List.length_singleton]; omega
              repeat' (first | refine rnC ?_ | refine rnSB ?_ | refine rnG ?_ | refine rnU ?_ | refine rkC ?_ | refine rkSB ?_ | refine rkF ?_ | refine rkU ?_ | refine stp ?_ | refine ifT ?_ | refine ifF ?_ | fail)
              refine rn_says (says_frz (t := 90) (o := 25) rfl rfl rfl (by rw [List.length_map])) rfl ?_
              repeat' (first | refine rnC ?_ | refine rnSB ?_ | refine rnG ?_ | refine rnU ?_ | refine rkC ?_ | refine rkSB ?_ | refine rkF ?_ | refine rkU ?_ | refine stp ?_ | refine ifT ?_ | refine ifF ?_ | fail)
              refine aws_draws [(15, 6), (16, 7)] mixed (by kernel_rfl) ?_
              repeat' (first | refine rk_nil ?_ | refine rkC ?_ | refine rkSB ?_ | refine rkF ?_ | refine rkU ?_ | ((fail_if_success (refine rkKn ?_)); refine rkP ?_ ?_ <;> (intro hq; try (have hq' := hq; simp only [hqs] at hq'))))
              as_aux_lemma =>
                repeat' (first | refine rnC ?_ | refine rnSB ?_ | refine rnG ?_ | refine rnU ?_ | refine rkC ?_ | refine rkSB ?_ | refine rkF ?_ | refine rkU ?_ | refine stp ?_ | refine aws_draws [] mixed (by kernel_rfl) ?_ | refine ifT ?_ | refine ifF ?_ | fail)
                exact rcc3 rfl rfl rfl rfl rfl rfl finL_p rfl rfl rfl rfl rfl finL_p rfl finS_p rfl
end Go.Proofs.YtebjmleheiefdaaGreat.Ca
namespace Go.Proofs.YtebjmleheiefdaaGreat.Ca
open Go Go.RowKit Go.Aw Go.Aw.Cart Go.Aw.Ord Go.Sort
set_option linter.unusedVariables false
set_option linter.unusedSimpArgs false
set_option maxRecDepth 8000
set_option maxHeartbeats 8000000
open E4
theorem do_w2 (v : List Int) (l : List Ent) (ex : Bool) (nd : Int) (o : Op3) (hv : v.length = 8) (hb : ∀ n ∈ v, 0 ≤ n ∧ n < 18446744073709551616) (hl : l.length ≤ 1000000) (hk : o.1 = 2) : PCall Tryz.prog 33 [cV v l ex, .p (.i nd), opV o] (.tup [.agg (cL (doF (v, l) nd o).1.1.1 (doF (v, l) nd o).1.1.2 false), .agg (xL (doF (v, l) nd o).1.2), .one (.p (.i (doF (v, l) nd o).2))]) := by
  refine pcall_of Tryz.func33 rfl (fun w0 F S0 M0 => ?_)
  have hl2 : l.length ≤ 1000000000 := by omega
  have sl : (stL o l).length ≤ 1000000 := Nat.le_trans (List.length_filter_le _ _) hl
  have nx := next_w v nd hv hb
  obtain ⟨D, E, hDE⟩ : ∃ D E, nextF v nd = (D, E) := ⟨_, _, rfl⟩
  have hE : (nodeF nd = false → E = 11) ∧ (nodeF nd = true → E ≠ 11) ∧ (nodeF nd = true → getF v nd = 18446744073709551615 → E = 13) ∧ (nodeF nd = true → getF v nd ≠ 18446744073709551615 → E = 0 ∧ D = newD v nd) := by
    unfold nextF at hDE
    cases hn : nodeF nd with
    | false =>
      rw [if_pos hn] at hDE
      obtain ⟨rfl, rfl⟩ := Prod.mk.inj hDE
      simp
    | true =>
      rw [if_neg (by rw [hn]; simp)] at hDE
      by_cases hm : getF v nd = 18446744073709551615
      · rw [if_pos hm] at hDE
        obtain ⟨rfl, rfl⟩ := Prod.mk.inj hDE
        simp [hm]
      · rw [if_neg hm] at hDE
        obtain ⟨rfl, rfl⟩ := Prod.mk.inj hDE
        simp [hm, newD]
  obtain ⟨hE1, hE2, hE3, hE4⟩ := hE
  rw [hDE] at nx
  simp only at nx
  haveI : PC Tryz.prog 65 [vV v, .p (.i nd)] True (.tup [.agg (dL D), .one (.p (.i E))]) := ⟨fun _ => nx⟩
  clear nx hDE
  · have d1 : decide (o.1 = 1) = false := decide_eq_false (by omega)
    have d2 : decide (o.1 = 2) = true := decide_eq_true hk
    have ha : addsF o = true := decide_eq_true (by omega)
    repeat' (first | refine rnC ?_ | refine rnSB ?_ | refine rnG ?_ | refine rnU ?_ | refine rkC ?_ | refine rkSB ?_ | refine rkF ?_ | refine rkU ?_ | refine stp ?_ | refine aws_draws [] mixed (by kernel_rfl) ?_ | refine ifT ?_ | refine ifF ?_ | fail)
    refine aws_says (says_is (t := 13) (v' := .p (.b true)) rfl (by first | rfl | exact congrArg (fun b => AV.p (PVal.b b)) d2)) ?_
    cases hr : rightF v l with
    | false =>
      have t1 : (!rightF v l) = true := by rw [hr]; rfl
      have ee : doF (v, l) nd o = (((zeroV, []), zeroE), 3) := by unfold doF; rw [if_pos hr]
      rw [ee]
      as_aux_lemma =>
        repeat' (first | refine rnC ?_ | refine rnSB ?_ | refine rnG ?_ | refine rnU ?_ | refine rkC ?_ | refine rkSB ?_ | refine rkF ?_ | refine rkU ?_ | refine stp ?_ | refine aws_draws [] mixed (by kernel_rfl) ?_ | refine ifT ?_ | refine ifF ?_ | fail)
        exact rcc3 rfl rfl rfl rfl rfl rfl fin9 rfl rfl rfl rfl rfl fin6 rfl finS_p rfl
    | true =>
      have t1 : (!rightF v l) = false := by rw [hr]; rfl
      repeat' (first | refine rnC ?_ | refine rnSB ?_ | refine rnG ?_ | refine rnU ?_ | refine rkC ?_ | refine rkSB ?_ | refine rkF ?_ | refine rkU ?_ | refine stp ?_ | refine aws_draws [] mixed (by kernel_rfl) ?_ | refine ifT ?_ | refine ifF ?_ | fail)
      cases hm : mayF o with
      | false =>
        have t2 : (!mayF o) = true := by rw [hm]; rfl
        have ee : doF (v, l) nd o = (((zeroV, []), zeroE), 1) := by unfold doF; rw [if_neg (by simp [hr]), if_pos hm]
        rw [ee]
        as_aux_lemma =>
          repeat' (first | refine rnC ?_ | refine rnSB ?_ | refine rnG ?_ | refine rnU ?_ | refine rkC ?_ | refine rkSB ?_ | refine rkF ?_ | refine rkU ?_ | refine stp ?_ | refine aws_draws [] mixed (by kernel_rfl) ?_ | refine ifT ?_ | refine ifF ?_ | fail)
          exact rcc3 rfl rfl rfl rfl rfl rfl fin9 rfl rfl rfl rfl rfl fin6 rfl finS_p rfl
      | true =>
        have t2 : (!mayF o) = false := by rw [hm]; rfl
        repeat' (first | refine rnC ?_ | refine rnSB ?_ | refine rnG ?_ | refine rnU ?_ | refine rkC ?_ | refine rkSB ?_ | refine rkF ?_ | refine rkU ?_ | refine stp ?_ | refine aws_draws [] mixed (by kernel_rfl) ?_ | refine ifT ?_ | refine ifF ?_ | fail)
        cases hn : nodeF nd with
        | false =>
          have e11 := hE1 hn
          subst e11
          have ee : doF (v, l) nd o = (((zeroV, []), zeroE), 11) := by unfold doF; rw [if_neg (by simp [hr]), if_neg (by simp [hm]), if_pos hn]
          rw [ee]
          as_aux_lemma =>
            repeat' (first | refine rnC ?_ | refine rnSB ?_ | refine rnG ?_ | refine rnU ?_ | refine rkC ?_ | refine rkSB ?_ | refine rkF ?_ | refine rkU ?_ | refine stp ?_ | refine aws_draws [] mixed (by kernel_rfl) ?_ | refine ifT ?_ | refine ifF ?_ | fail)
            exact rcc3 rfl rfl rfl rfl rfl rfl fin9 rfl rfl rfl rfl rfl fin6 rfl finS_p rfl
        | true =>
          have t3 : decide (E = 11) = false := decide_eq_false (hE2 hn)
          repeat' (first | refine rnC ?_ | refine rnSB ?_ | refine rnG ?_ | refine rnU ?_ | refine rkC ?_ | refine rkSB ?_ | refine rkF ?_ | refine rkU ?_ | refine stp ?_ | refine aws_draws [] mixed (by kernel_rfl) ?_ | refine ifT ?_ | refine ifF ?_ | fail)
          by_cases hx : getF v nd = 18446744073709551615
          · have e13 := hE3 hn hx
            subst e13
            have ee : doF (v, l) nd o = (((zeroV, []), zeroE), 13) := by unfold doF; rw [if_neg (by simp [hr]), if_neg (by simp [hm]), if_neg (by simp [hn]), if_neg (by simp [ha]), if_pos hx]
            rw [ee]
            as_aux_lemma =>
              repeat' (first | refine rnC ?_ | refine rnSB ?_ | refine rnG ?_ | refine rnU ?_ | refine rkC ?_ | refine rkSB ?_ | refine rkF ?_ | refine rkU ?_ | refine stp ?_ | refine aws_draws [] mixed (by kernel_rfl) ?_ | refine ifT ?_ | refine ifF ?_ | fail)
              exact rcc3 rfl rfl rfl rfl rfl rfl fin9 rfl rfl rfl rfl rfl fin6 rfl finS_p rfl
          · obtain ⟨e0, eD⟩ := hE4 hn hx
            clear hE1 hE2 hE3 hE4
            subst e0
            by_cases hs : 40 ≤ (stL o l).length
            · have t5 : decide (40 ≤ ((stL o l).length : Int)) = true := decide_eq_true (by omega)
              have ee : doF (v, l) nd o = (((zeroV, []), zeroE), 5) := by unfold doF; rw [if_neg (by simp [hr]), if_neg (by simp [hm]), if_neg (by simp [hn]), if_neg (by simp [ha]), if_neg hx, if_pos hs]
              rw [ee]
              as_aux_lemma =>
                repeat' (first | refine rnC ?_ | refine rnSB ?_ | refine rnG ?_ | refine rnU ?_ | refine rkC ?_ | refine rkSB ?_ | refine rkF ?_ | refine rkU ?_ | refine stp ?_ | refine aws_draws [] mixed (by kernel_rfl) ?_ | refine ifT ?_ | refine ifF ?_ | fail)
                exact rcc3 rfl rfl rfl rfl rfl rfl fin9 rfl rfl rfl rfl rfl fin6 rfl finS_p rfl
            · have t5 : decide (40 ≤ ((stL o l).length : Int)) = false := decide_eq_false (by omega)
              have ee : doF (v, l) nd o = (((withF v D, sortE (stL o l ++ [(o.2.1, D.1, D.2, o.2.2)])), (o.1, o.2.1, o.2.2, D, offF o l)), 0) := by unfold doF; rw [if_neg (by simp [hr]), if_neg (by simp [hm]), if_neg (by simp [hn]), if_neg (by simp [ha]), if_neg hx, if_neg hs, eD]; rfl
              rw [ee]
              have hal : (stL o l ++ [(o.2.1, D.1, D.2, o.2.2)]).length ≤ 1000000000 := by rw [List.length_append, List.length_singleton]; omega
              repeat' (first | refine rnC ?_ | refine rnSB ?_ | refine rnG ?_ | refine rnU ?_ | refine rkC ?_ | refine rkSB ?_ | refine rkF ?_ | refine rkU ?_ | refine stp ?_ | refine ifT ?_ | refine ifF ?_ | fail)
              refine rn_says (says_frz (t := 90) (o := 25) rfl rfl rfl (by rw [List.length_map])) rfl ?_
              repeat' (first | refine rnC ?_ | refine rnSB ?_ | refine rnG ?_ | refine rnU ?_ | refine rkC ?_ | refine rkSB ?_ | refine rkF ?_ | refine rkU ?_ | refine stp ?_ | refine ifT ?_ | refine ifF ?_ | fail)
              refine aws_draws [(15, 6), (16, 7)] mixed (by kernel_rfl) ?_
              repeat' (first | refine rk_nil ?_ | refine rkC ?_ | refine rkSB ?_ | refine rkF ?_ | refine rkU ?_ | ((fail_if_success (refine rkKn ?_)); refine rkP ?_ ?_ <;> (intro hq; try (have hq' := hq; simp only [hqs] at hq'))))
              as_aux_lemma =>
                repeat' (first | refine rnC ?_ | refine rnSB ?_ | refine rnG ?_ | refine rnU ?_ | refine rkC ?_ | refine rkSB ?_ | refine rkF ?_ | refine rkU ?_ | refine stp ?_ | refine aws_draws [] mixed (by kernel_rfl) ?_ | refine ifT ?_ | refine ifF ?_ | fail)
                exact rcc3 rfl rfl rfl rfl rfl rfl finL_p rfl rfl rfl rfl rfl finL_p rfl finS_p rfl
end Go.Proofs.YtebjmleheiefdaaGreat.Ca
namespace Go.Proofs.YtebjmleheiefdaaGreat.Ca
open Go Go.RowKit Go.Aw Go.Aw.Cart Go.Aw.Ord Go.Sort
set_option linter.unusedVariables false
set_option linter.unusedSimpArgs false
set_option maxRecDepth 8000
set_option maxHeartbeats 8000000
open E4
theorem do_w3 (v : List Int) (l : List Ent) (ex : Bool) (nd : Int) (o : Op3) (hv : v.length = 8) (hb : ∀ n ∈ v, 0 ≤ n ∧ n < 18446744073709551616) (hl : l.length ≤ 1000000) (hk : o.1 ≠ 1 ∧ o.1 ≠ 2) : PCall Tryz.prog 33 [cV v l ex, .p (.i nd), opV o] (.tup [.agg (cL (doF (v, l) nd o).1.1.1 (doF (v, l) nd o).1.1.2 false), .agg (xL (doF (v, l) nd o).1.2), .one (.p (.i (doF (v, l) nd o).2))]) := by
  refine pcall_of Tryz.func33 rfl (fun w0 F S0 M0 => ?_)
  have hl2 : l.length ≤ 1000000000 := by omega
  have sl : (stL o l).length ≤ 1000000 := Nat.le_trans (List.length_filter_le _ _) hl
  have nx := next_w v nd hv hb
  obtain ⟨D, E, hDE⟩ : ∃ D E, nextF v nd = (D, E) := ⟨_, _, rfl⟩
  have hE : (nodeF nd = false → E = 11) ∧ (nodeF nd = true → E ≠ 11) ∧ (nodeF nd = true → getF v nd = 18446744073709551615 → E = 13) ∧ (nodeF nd = true → getF v nd ≠ 18446744073709551615 → E = 0 ∧ D = newD v nd) := by
    unfold nextF at hDE
    cases hn : nodeF nd with
    | false =>
      rw [if_pos hn] at hDE
      obtain ⟨rfl, rfl⟩ := Prod.mk.inj hDE
      simp
    | true =>
      rw [if_neg (by rw [hn]; simp)] at hDE
      by_cases hm : getF v nd = 18446744073709551615
      · rw [if_pos hm] at hDE
        obtain ⟨rfl, rfl⟩ := Prod.mk.inj hDE
        simp [hm]
      · rw [if_neg hm] at hDE
        obtain ⟨rfl, rfl⟩ := Prod.mk.inj hDE
        simp [hm, newD]
  obtain ⟨hE1, hE2, hE3, hE4⟩ := hE
  rw [hDE] at nx
  simp only at nx
  haveI : PC Tryz.prog 65 [vV v, .p (.i nd)] True (.tup [.agg (dL D), .one (.p (.i E))]) := ⟨fun _ => nx⟩
  clear nx hDE
  · have d1 : decide (o.1 = 1) = false := decide_eq_false (by omega)
    have d2 : decide (o.1 = 2) = false := decide_eq_false (by omega)
    have ha : addsF o = false := decide_eq_false (by omega)
    repeat' (first | refine rnC ?_ | refine rnSB ?_ | refine rnG ?_ | refine rnU ?_ | refine rkC ?_ | refine rkSB ?_ | refine rkF ?_ | refine rkU ?_ | refine stp ?_ | refine aws_draws [] mixed (by kernel_rfl) ?_ | refine ifT ?_ | refine ifF ?_ | fail)
    refine aws_says (says_is (t := 13) (v' := .p (.b false)) rfl (by first | rfl | exact congrArg (fun b => AV.p (PVal.b b)) d2)) ?_
    cases hr : rightF v l with
    | false =>
      have t1 : (!rightF v l) = true := by rw [hr]; rfl
      have ee : doF (v, l) nd o = (((zeroV, []), zeroE), 3) := by unfold doF; rw [if_pos hr]
      rw [ee]
      as_aux_lemma =>
        repeat' (first | refine rnC ?_ | refine rnSB ?_ | refine rnG ?_ | refine rnU ?_ | refine rkC ?_ | refine rkSB ?_ | refine rkF ?_ | refine rkU ?_ | refine stp ?_ | refine aws_draws [] mixed (by kernel_rfl) ?_ | refine ifT ?_ | refine ifF ?_ | fail)
        exact rcc3 rfl rfl rfl rfl rfl rfl fin9 rfl rfl rfl rfl rfl fin6 rfl finS_p rfl
    | true =>
      have t1 : (!rightF v l) = false := by rw [hr]; rfl
      repeat' (first | refine rnC ?_ | refine rnSB ?_ | refine rnG ?_ | refine rnU ?_ | refine rkC ?_ | refine rkSB ?_ | refine rkF ?_ | refine rkU ?_ | refine stp ?_ | refine aws_draws [] mixed (by kernel_rfl) ?_ | refine ifT ?_ | refine ifF ?_ | fail)
      cases hm : mayF o with
      | false =>
        have t2 : (!mayF o) = true := by rw [hm]; rfl
        have ee : doF (v, l) nd o = (((zeroV, []), zeroE), 1) := by unfold doF; rw [if_neg (by simp [hr]), if_pos hm]
        rw [ee]
        as_aux_lemma =>
          repeat' (first | refine rnC ?_ | refine rnSB ?_ | refine rnG ?_ | refine rnU ?_ | refine rkC ?_ | refine rkSB ?_ | refine rkF ?_ | refine rkU ?_ | refine stp ?_ | refine aws_draws [] mixed (by kernel_rfl) ?_ | refine ifT ?_ | refine ifF ?_ | fail)
          exact rcc3 rfl rfl rfl rfl rfl rfl fin9 rfl rfl rfl rfl rfl fin6 rfl finS_p rfl
      | true =>
        have t2 : (!mayF o) = false := by rw [hm]; rfl
        repeat' (first | refine rnC ?_ | refine rnSB ?_ | refine rnG ?_ | refine rnU ?_ | refine rkC ?_ | refine rkSB ?_ | refine rkF ?_ | refine rkU ?_ | refine stp ?_ | refine aws_draws [] mixed (by kernel_rfl) ?_ | refine ifT ?_ | refine ifF ?_ | fail)
        cases hn : nodeF nd with
        | false =>
          have e11 := hE1 hn
          subst e11
          have ee : doF (v, l) nd o = (((zeroV, []), zeroE), 11) := by unfold doF; rw [if_neg (by simp [hr]), if_neg (by simp [hm]), if_pos hn]
          rw [ee]
          as_aux_lemma =>
            repeat' (first | refine rnC ?_ | refine rnSB ?_ | refine rnG ?_ | refine rnU ?_ | refine rkC ?_ | refine rkSB ?_ | refine rkF ?_ | refine rkU ?_ | refine stp ?_ | refine aws_draws [] mixed (by kernel_rfl) ?_ | refine ifT ?_ | refine ifF ?_ | fail)
            exact rcc3 rfl rfl rfl rfl rfl rfl fin9 rfl rfl rfl rfl rfl fin6 rfl finS_p rfl
        | true =>
          have t3 : decide (E = 11) = false := decide_eq_false (hE2 hn)
          repeat' (first | refine rnC ?_ | refine rnSB ?_ | refine rnG ?_ | refine rnU ?_ | refine rkC ?_ | refine rkSB ?_ | refine rkF ?_ | refine rkU ?_ | refine stp ?_ | refine aws_draws [] mixed (by kernel_rfl) ?_ | refine ifT ?_ | refine ifF ?_ | fail)
          by_cases ho : (offF o l).length = 0
          · have t4 : decide (((offF o l).length : Int) = 0) = true := decide_eq_true (by omega)
            have ee : doF (v, l) nd o = (((zeroV, []), zeroE), 4) := by unfold doF; rw [if_neg (by simp [hr]), if_neg (by simp [hm]), if_neg (by simp [hn]), if_pos ha, if_pos ho]
            rw [ee]
            as_aux_lemma =>
              repeat' (first | refine rnC ?_ | refine rnSB ?_ | refine rnG ?_ | refine rnU ?_ | refine rkC ?_ | refine rkSB ?_ | refine rkF ?_ | refine rkU ?_ | refine stp ?_ | refine aws_draws [] mixed (by kernel_rfl) ?_ | refine ifT ?_ | refine ifF ?_ | fail)
              exact rcc3 rfl rfl rfl rfl rfl rfl fin9 rfl rfl rfl rfl rfl fin6 rfl finS_p rfl
          · have t4 : decide (((offF o l).length : Int) = 0) = false := decide_eq_false (by omega)
            have ee : doF (v, l) nd o = (((v, stL o l), (o.1, 0, 0, (0, 0), offF o l)), 0) := by unfold doF; rw [if_neg (by simp [hr]), if_neg (by simp [hm]), if_neg (by simp [hn]), if_pos ha, if_neg ho]
            rw [ee]
            repeat' (first | refine rnC ?_ | refine rnSB ?_ | refine rnG ?_ | refine rnU ?_ | refine rkC ?_ | refine rkSB ?_ | refine rkF ?_ | refine rkU ?_ | refine stp ?_ | refine ifT ?_ | refine ifF ?_ | fail)
            refine aws_says (says_frz (t := 11) (o := 25) rfl rfl rfl (by rw [List.length_map])) ?_
            refine aws_draws [(8, 6), (9, 7)] mixed (by kernel_rfl) ?_
            repeat' (first | refine rk_nil ?_ | refine rkC ?_ | refine rkSB ?_ | refine rkF ?_ | refine rkU ?_ | ((fail_if_success (refine rkKn ?_)); refine rkP ?_ ?_ <;> (intro hq; try (have hq' := hq; simp only [hqs] at hq'))))
            as_aux_lemma =>
              repeat' (first | refine rnC ?_ | refine rnSB ?_ | refine rnG ?_ | refine rnU ?_ | refine rkC ?_ | refine rkSB ?_ | refine rkF ?_ | refine rkU ?_ | refine stp ?_ | refine aws_draws [] mixed (by kernel_rfl) ?_ | refine ifT ?_ | refine ifF ?_ | fail)
              exact rcc3 rfl rfl rfl rfl rfl rfl finL_p rfl rfl rfl rfl rfl finL_p rfl finS_p rfl
end Go.Proofs.YtebjmleheiefdaaGreat.Ca
namespace Go.Proofs.YtebjmleheiefdaaGreat.Ca
open Go Go.RowKit Go.Aw Go.Aw.Cart Go.Aw.Ord Go.Sort
set_option linter.unusedVariables false
set_option linter.unusedSimpArgs false
set_option maxRecDepth 8000
set_option maxHeartbeats 8000000
theorem do_w (v : List Int) (l : List Ent) (ex : Bool) (nd : Int) (o : Op3) (hv : v.length = 8) (hb : ∀ n ∈ v, 0 ≤ n ∧ n < 18446744073709551616) (hl : l.length ≤ 1000000) : PCall Tryz.prog 33 [cV v l ex, .p (.i nd), opV o] (.tup [.agg (cL (doF (v, l) nd o).1.1.1 (doF (v, l) nd o).1.1.2 false), .agg (xL (doF (v, l) nd o).1.2), .one (.p (.i (doF (v, l) nd o).2))]) := by
  rcases (show o.1 = 1 ∨ o.1 = 2 ∨ (o.1 ≠ 1 ∧ o.1 ≠ 2) by omega) with hk | hk | hk
  · exact do_w1 v l ex nd o hv hb hl hk
  · exact do_w2 v l ex nd o hv hb hl hk
  · exact do_w3 v l ex nd o hv hb hl hk
end Go.Proofs.YtebjmleheiefdaaGreat.Ca
namespace Go.Proofs.YtebjmleheiefdaaGreat.Ca
open Go Go.RowKit Go.Aw Go.Aw.Cart Go.Aw.Ord Go.Sort
set_option linter.unusedVariables false
set_option linter.unusedSimpArgs false
set_option maxRecDepth 8000
set_option maxHeartbeats 4000000
theorem do_add {c : Crt} {nd : Int} {o : Op3} {s t : List Ent} {f : List Dot} (hr : rightF c.1 c.2 = true) (hm : mayF o = true) (hn : nodeF nd = true) (ha : addsF o = true) (hg : getF c.1 nd ≠ 18446744073709551615) (hs : stL o c.2 = s) (h4 : s.length < 40) (ht : (s ++ [newE c.1 nd o]).Perm t) (htu : t.Pairwise ltE) (hf : offF o c.2 = f) :
    doF c nd o = (((withF c.1 (newD c.1 nd), t), (o.1, o.2.1, o.2.2, newD c.1 nd, f)), 0) := by
  unfold doF
  rw [if_neg (by simp [hr]), if_neg (by simp [hm]), if_neg (by simp [hn]), if_neg (by simp [ha]), if_neg hg, hs, if_neg (by omega), hf, sortE_is ht.symm (htu.imp fun {a b} k => ltE_as _ _ k)]
theorem do_take {c : Crt} {nd : Int} {o : Op3} {s : List Ent} {f : List Dot} (hr : rightF c.1 c.2 = true) (hm : mayF o = true) (hn : nodeF nd = true) (ha : addsF o = false) (hs : stL o c.2 = s) (hf : offF o c.2 = f) (h0 : f.length ≠ 0) :
    doF c nd o = (((c.1, s), (o.1, 0, 0, (0, 0), f)), 0) := by
  unfold doF
  rw [if_neg (by simp [hr]), if_neg (by simp [hm]), if_neg (by simp [hn]), if_pos ha, hf, if_neg h0, hs]
theorem do_none {c : Crt} {nd : Int} {o : Op3} (hr : rightF c.1 c.2 = true) (hm : mayF o = true) (hn : nodeF nd = true) (ha : addsF o = false) (hf : offF o c.2 = []) : doF c nd o = (((zeroV, []), zeroE), 4) := by
  unfold doF
  rw [if_neg (by simp [hr]), if_neg (by simp [hm]), if_neg (by simp [hn]), if_pos ha, hf, if_pos (show ([] : List Dot).length = 0 from rfl)]
theorem off_are {o : Op3} {l : List Ent} {d : List Dot} (h : (goL o l).map dotE = d) (hu : d.Pairwise ltD) (hd : ∀ x ∈ d, dotF x = true) (h2 : d.length ≤ 2000) : offF o l = d := by
  have hl : (goL o l).length ≤ 2000 := by rw [← h, List.length_map] at h2; exact h2
  rw [offF, live_set _ hl, h, setF_id hu hd]
theorem ltE_ab {a b : Ent} (h : ltE a b) : [a, b].Pairwise ltE := List.pairwise_cons.2 ⟨fun x hx => by rw [List.mem_singleton.1 hx]; exact h, List.pairwise_singleton _ _⟩
theorem ltD_ab {a b : Dot} (h : ltD a b) : [a, b].Pairwise ltD := List.pairwise_cons.2 ⟨fun x hx => by rw [List.mem_singleton.1 hx]; exact h, List.pairwise_singleton _ _⟩
namespace K7
def V1 : List Int := [0, 1, 0, 0, 0, 0, 0, 0]
def L1 : List Ent := [(5, 2, 1, 4)]
theorem r1 : rightF V1 L1 = true := rightF_iff.2 ⟨by decide, by decide, by decide⟩
def V2 : List Int := [0, 1, 1, 0, 0, 0, 0, 0]
def L2 : List Ent := [(5, 2, 1, 4), (5, 3, 1, -1)]
theorem r2 : rightF V2 L2 = true := rightF_iff.2 ⟨by decide, by decide, by decide⟩
def V3 : List Int := [0, 2, 1, 0, 0, 0, 0, 0]
def L3 : List Ent := [(5, 2, 2, 3)]
theorem r3 : rightF V3 L3 = true := rightF_iff.2 ⟨by decide, by decide, by decide⟩
theorem rz : rightF zeroV [] = true := rightF_iff.2 ⟨by decide, by decide, by decide⟩
theorem s1 : doF (zeroV, []) 2 (1, 5, 4) = (((V1, L1), (1, 5, 4, (2, 1), [])), 0) := do_add (s := []) rz (by decide) (by decide) (by decide) (by decide) rfl (by decide) (.refl _) (List.pairwise_singleton _ _) (off_are (d := []) rfl .nil (by decide) (by decide))
theorem s2 : doF (V1, L1) 3 (1, 5, -1) = (((V2, L2), (1, 5, -1, (3, 1), [])), 0) := do_add (s := L1) r1 (by decide) (by decide) (by decide) (by decide) (by decide) (by decide) (.refl _) (ltE_ab (by unfold ltE; decide)) (off_are (d := []) (by decide) .nil (by decide) (by decide))
theorem s3 : doF (V2, L2) 2 (2, 5, 3) = (((V3, L3), (2, 5, 3, (2, 2), [(2, 1), (3, 1)])), 0) := do_add (s := []) r2 (by decide) (by decide) (by decide) (by decide) (by decide) (by decide) (.refl _) (List.pairwise_singleton _ _) (off_are (by decide) (ltD_ab (by unfold ltD; decide)) (by decide) (by decide))
theorem s4 : doF (V3, L3) 2 (3, 6, 0) = (((zeroV, []), zeroE), 4) := do_none r3 (by decide) (by decide) (by decide) (off_are (d := []) (by decide) .nil (by decide) (by decide))
theorem s5 : doF (V3, L3) 1 (4, 0, 0) = (((V3, []), (4, 0, 0, (0, 0), [(2, 2)])), 0) := do_take r3 (by decide) (by decide) (by decide) (by decide) (off_are (by decide) (List.pairwise_singleton _ _) (by decide) (by decide)) (by decide)
end K7
/-- two cells of a variable, from some place on -/
theorem lop_ld_c2 {C : Ctx} {o : Oper} {σ : St} {T : TypeId} {x : Operand} {k : TK} {sz by_ : Nat} {ob g off n : Nat} {ty : TypeId} {cs : List AC} {c0 c1 : AC} (ho : o.op = .load T x) (hT : TI C.P T k sz by_) (hx : σ.look x = .o (.ptr ob g off)) (hm : σ.mem ob = (n, some (.box ty cs))) (hn : n = g + 1) (hk : k.agg = true) (hs : sz = 2) (hc : (cs.drop off).take 2 = [c0, c1]) (hd : dOk C o.dst = true) :
    LOp C o σ ⟨.a [c0, c1], []⟩ (fun y => y == ob) := by
  subst hs
  have hl := congrArg List.length hc
  rw [List.length_take, List.length_drop, List.length_cons, List.length_singleton] at hl
  exact lop_ld_cells ho hT hx hm hn hk (decide_eq_true (by omega)) hc hd
namespace E6
theorem lopC {C : Ctx} {o : Oper} {σ : St} {e : Eff} {ro : Nat → Bool} (h : LOp C o σ e ro := by
    first | (apply lop_bsb; (focus rfl); (focus exact inferInstance); (focus exact inferInstance); (focus exact inferInstance); (focus repeat' (first | exact All2.nil | (apply bs_cons; (focus rfl); (focus rfl); (focus rfl)))); (focus rfl); (focus decide); (focus first | decide | omega); (focus repeat' (first | exact All2.nil | (apply All2.cons; (focus rfl)))); (focus rfl)) | exact E4.lopC | (apply gLoad; (focus rfl); apply lop_ld_c2; (focus rfl); (focus exact inferInstance); (focus rfl); (focus rfl); (focus rfl); (focus rfl); (focus rfl); (focus rfl); (focus rfl)) | (apply lop_call2; (focus rfl); (focus exact inferInstance); (focus first | exact lk_v8 (by assumption) rfl | exact lk_v8l rfl); (focus first | exact lk_v8 (by assumption) rfl | exact lk_v8l rfl); (focus exact inferInstance); (focus exact inferInstance); (focus first | exact True.intro | assumption | rfl | omega | ((repeat' (first | assumption | refine And.intro ?_ ?_ | omega | rfl)); done) | fail); (focus rfl)) | fail) : LOp C o σ e ro := h
section steps
variable {C : Ctx} {ops : Array Oper} {o : Oper} {rest : List Oper} {K : St → Prop} {σ : St} {e : Eff} {ro : Nat → Bool} {W : List (Nat × Nat)} {i : Nat}
theorem rnC {d : Nat} (hk : RunN C ops rest K (e.app (some d) σ)) (hg : Guard ops σ o true := by first | exact gd_n rfl rfl | exact gd_t rfl rfl rfl rfl | exact gd_t rfl rfl rfl (by assumption)) (hd : o.dst = some d := by rfl) (h : LOp C o σ e ro := by exact lopC) : RunN C ops (o :: rest) K σ := rn_any hg hd h hk
theorem rkC {d : Nat} (hk : RunK C ops W (i + 1) rest K (e.app (some d) σ)) (hg : Guard ops σ o true := by first | exact gd_n rfl rfl | exact gd_t rfl rfl rfl rfl | exact gd_t rfl rfl rfl (by assumption)) (hd' : o.dst = some d := by rfl) (hd : dOk C o.dst = true := by rfl) (h : LOp C o σ e ro := by exact lopC)
    (hro : ∀ x, ro x = true → okObj ops W i x = true := by first | exact fun _ => ro_none | exact ro_one rfl | exact ro_k1 rfl | exact ro_one (by kernel_rfl) | exact ro_k1 (by kernel_rfl) | exact ro_kIn (by decide)) (hob : ∀ p ∈ e.obj, (i, p.1) ∈ W := by first | exact ob_none | exact ob_one (by decide) | decide) : RunK C ops W i (o :: rest) K σ := rk_wr hg hd' hd h hro hob hk
end steps
end E6
open E6 K7
abbrev xLe (x : Evt) (ex : Bool) : List AC := [.p (.i x.1), .p (.i x.2.1), .p (.i x.2.2.1), .p (.i x.2.2.2.1.1), .p (.k .u64 x.2.2.2.1.2), .p (.sl 2 (x.2.2.2.2.map dR) ex)]
theorem sameX_w (x : Evt) (ex ey : Bool) (h : x.2.2.2.2.length ≤ 1000000000) : PCall Tryz.prog 102 [.a (xLe x ex), .a (xLe x ey)] (.p (.b true)) := by
  refine pcall_of Tryz.func102 rfl (fun w0 F S0 M0 => ?_)
  obtain ⟨k, i, q, d, l⟩ := x
  dsimp only at h ⊢
  have e1 : decide (k = k) = true := decide_eq_true rfl
  have e2 : decide (i = i) = true := decide_eq_true rfl
  have e3 : decide (q = q) = true := decide_eq_true rfl
  have e4 := vEqD d d
  rw [decide_eq_true rfl] at e4
  have e5 : decide (l = l) = true := decide_eq_true rfl
  as_aux_lemma =>
    repeat' (first | refine rnC ?_ | refine rnSB ?_ | refine rnG ?_ | refine rnU ?_ | ((fail_if_success (refine rnKn ?_)); refine rnP ?_ ?_ <;> (intro hq; try (have hq' := hq; simp only [hqs] at hq'))) | refine rkC ?_ | refine rkSB ?_ | refine rkF ?_ | refine rkU ?_ | ((fail_if_success (refine rkKn ?_)); refine rkP ?_ ?_ <;> (intro hq; try (have hq' := hq; simp only [hqs] at hq'))) | refine stp ?_ | refine aws_draws [] mixed (by kernel_rfl) ?_ | refine ifT ?_ | refine ifF ?_ | (refine ifQ ?_ ?_ <;> (try (intro hn))) | (refine ifB ?_ ?_ <;> (intro hq; try (have hq' := hq; simp only [hqs] at hq'))))
    exact rt1 rfl rfl finS_p (rb e5.symm)
end Go.Proofs.YtebjmleheiefdaaGreat.Ca
