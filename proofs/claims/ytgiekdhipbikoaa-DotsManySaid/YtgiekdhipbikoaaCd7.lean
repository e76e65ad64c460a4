/- dots: maundlaw04.alive -/
import Derived.Test.YtgiekdhipbikoaaCd5
import Derived.Test.YtgiekdhipbikoaaCd6
import Derived.Test.YtgiekdhipbikoaaCaQ
import Derived.Test.YtgiekdhipbikoaaCj3
namespace Go.Proofs.Ytgiekdhipbikoaa.Ca
open Go Go.RowKit Go.Aw Go.Aw.Cart Go.Aw.Ord Go.Sort Go.Proofs.Ytgiekdhipbikoaa.Wi
set_option linter.unusedVariables false
set_option linter.unusedSimpArgs false
set_option maxRecDepth 8000
set_option maxHeartbeats 4000000
theorem dof_is {l : List Dot} (h : l.length ≤ 2000) : G.dotsOf l = setF l := by
  rw [dotsOf_is, List.take_of_length_le]
  have := setF_len l
  omega
/-- a set of given dots -/
theorem set_are {l m : List Dot} (hl : l.length ≤ 2000) (hu : m.Pairwise ltD) (hm : ∀ x, x ∈ m ↔ x ∈ l ∧ dotF x = true) : G.dotsOf l = m := by
  rw [dof_is hl]
  exact up_ext ltD_ir ltD_tr (setF_up l) hu fun x => by rw [setF_mem]; exact (hm x).symm
namespace K4
def B6 : List Nat := [1, 1, 1, 1, 1, 1]
theorem up2 : ([(1, 1), (2, 3)] : List Dot).Pairwise ltD := List.pairwise_cons.2 ⟨fun x hx => by rw [List.mem_singleton.1 hx]; exact .inl (by decide), List.pairwise_singleton _ _⟩
theorem d0 : G.dotsOf [(2, 3), (1, 1), (2, 3), (0, 0)] = [(1, 1), (2, 3)] := set_are (by decide) up2 fun x => by
  obtain ⟨a, b⟩ := x
  simp only [List.mem_cons, List.not_mem_nil, or_false, Prod.mk.injEq, dotF, decide_eq_true_eq]
  omega
theorem d1 : G.dotsOf (someF [(1, 1), (2, 3)] [(2, 3)] false) = [(1, 1)] := by
  rw [show someF [(1, 1), (2, 3)] [(2, 3)] false = [(1, 1)] by decide]
  exact set_are (by decide) (List.pairwise_singleton _ _) fun x => by
    obtain ⟨a, b⟩ := x
    simp only [List.mem_cons, List.not_mem_nil, or_false, Prod.mk.injEq, dotF, decide_eq_true_eq]
    omega
theorem d2 : G.dotsOf ([(1, 1)] ++ [(1, 1), (2, 3)]) = [(1, 1), (2, 3)] := set_are (by decide) up2 fun x => by
  obtain ⟨a, b⟩ := x
  simp only [List.mem_append, List.mem_cons, List.not_mem_nil, or_false, Prod.mk.injEq, dotF, decide_eq_true_eq]
  omega
theorem d3 : G.dotsOf (someF [(1, 1)] [(1, 1), (2, 3)] true) = [(1, 1)] := by
  rw [show someF [(1, 1)] [(1, 1), (2, 3)] true = [(1, 1)] by decide]
  exact set_are (by decide) (List.pairwise_singleton _ _) fun x => by
    obtain ⟨a, b⟩ := x
    simp only [List.mem_cons, List.not_mem_nil, or_false, Prod.mk.injEq, dotF, decide_eq_true_eq]
    omega
theorem t6 : takesD (B6, 0) = ([(1, 1)], ([], 0)) := by decide
theorem p6 : ([] : List Nat) ++ dotsB [(1, 1)] = B6 := by decide
end K4
namespace D7
theorem lopC {C : Ctx} {o : Oper} {σ : St} {e : Eff} {ro : Nat → Bool} (h : LOp C o σ e ro := by
    first
      | (apply lop_bsb; (focus rfl); (focus exact inferInstance); (focus exact inferInstance); (focus exact inferInstance); (focus repeat' (first | exact All2.nil | (apply bs_cons; (focus rfl); (focus rfl); (focus rfl)))); (focus rfl); (focus decide); (focus first | decide | omega); (focus repeat' (first | exact All2.nil | (apply All2.cons; (focus rfl)))); (focus rfl))
      | exact W4.lopC
      | exact lopV
      | fail) : LOp C o σ e ro := h
section steps
variable {C : Ctx} {ops : Array Oper} {o : Oper} {rest : List Oper} {K : St → Prop} {σ : St} {e : Eff} {ro : Nat → Bool} {W : List (Nat × Nat)} {i : Nat}
theorem rnC {d : Nat} (hk : RunN C ops rest K (e.app (some d) σ)) (hg : Guard ops σ o true := by first | exact gd_n rfl rfl | exact gd_t rfl rfl rfl rfl | exact gd_t rfl rfl rfl (by assumption)) (hd : o.dst = some d := by rfl) (h : LOp C o σ e ro := by exact lopC) : RunN C ops (o :: rest) K σ := rn_any hg hd h hk
theorem rkC {d : Nat} (hk : RunK C ops W (i + 1) rest K (e.app (some d) σ)) (hg : Guard ops σ o true := by first | exact gd_n rfl rfl | exact gd_t rfl rfl rfl rfl | exact gd_t rfl rfl rfl (by assumption)) (hd' : o.dst = some d := by rfl) (hd : dOk C o.dst = true := by rfl) (h : LOp C o σ e ro := by exact lopC)
    (hro : ∀ x, ro x = true → okObj ops W i x = true := by first | exact fun _ => ro_none | exact ro_one rfl | exact ro_k1 rfl | exact ro_one (by kernel_rfl) | exact ro_k1 (by kernel_rfl) | exact ro_kIn (by decide)) (hob : ∀ p ∈ e.obj, (i, p.1) ∈ W := by first | exact ob_none | exact ob_one (by decide) | decide) : RunK C ops W i (o :: rest) K σ := rk_wr hg hd' hd h hro hob hk
end steps
end D7
open D7 K4
theorem alive4_w : PCall Try.prog 9 [] (.p (.b true)) := by
  refine pcall_of Try.func9 rfl (fun w0 F S0 M0 => ?_)
  have c0 : PCall Try.prog 22 [.p (.sl 2 [[.i 2, .k .u64 3], [.i 1, .k .u64 1], [.i 2, .k .u64 3], [.i 0, .k .u64 0]] true)] (.p (.sl 2 [[.i 1, .k .u64 1], [.i 2, .k .u64 3]] false)) := by
    have k := dOf_w [(2, 3), (1, 1), (2, 3), (0, 0)] true (by decide)
    rw [d0] at k; exact k
  haveI : PC Try.prog 22 [.p (.sl 2 [[.i 2, .k .u64 3], [.i 1, .k .u64 1], [.i 2, .k .u64 3], [.i 0, .k .u64 0]] true)] True (.p (.sl 2 [[.i 1, .k .u64 1], [.i 2, .k .u64 3]] false)) := ⟨fun _ => c0⟩
  have c1 : PCall Try.prog 28 [.p (.sl 2 [[.i 1, .k .u64 1], [.i 2, .k .u64 3]] false), .p (.sl 2 [[.i 2, .k .u64 3]] true)] (.p (.sl 2 [[.i 1, .k .u64 1]] false)) := by
    have k := minusD_w [(1, 1), (2, 3)] [(2, 3)] false true (by decide) (by decide)
    rw [d1] at k; exact k
  haveI : PC Try.prog 28 [.p (.sl 2 [[.i 1, .k .u64 1], [.i 2, .k .u64 3]] false), .p (.sl 2 [[.i 2, .k .u64 3]] true)] True (.p (.sl 2 [[.i 1, .k .u64 1]] false)) := ⟨fun _ => c1⟩
  have c2 : PCall Try.prog 11 [.p (.sl 2 [[.i 1, .k .u64 1], [.i 2, .k .u64 3]] false)] (.p (.b true)) := by
    have k := dRight_w [(1, 1), (2, 3)] false (by decide)
    rw [show dRightF [(1, 1), (2, 3)] = true by decide] at k; exact k
  haveI : PC Try.prog 11 [.p (.sl 2 [[.i 1, .k .u64 1], [.i 2, .k .u64 3]] false)] True (.p (.b true)) := ⟨fun _ => c2⟩
  have c3 : PCall Try.prog 13 [.p (.sl 2 [[.i 1, .k .u64 1], [.i 2, .k .u64 3]] false)] (.p (.b false)) := by
    have k := whole_w [(1, 1), (2, 3)] false (by decide) (by decide)
    rw [show wholeF [(1, 1), (2, 3)] = false by decide] at k; exact k
  haveI : PC Try.prog 13 [.p (.sl 2 [[.i 1, .k .u64 1], [.i 2, .k .u64 3]] false)] True (.p (.b false)) := ⟨fun _ => c3⟩
  have c4 : PCall Try.prog 13 [.p (.sl 2 [[.i 1, .k .u64 1]] false)] (.p (.b true)) := by
    have k := whole_w [(1, 1)] false (by decide) (by decide)
    rw [show wholeF [(1, 1)] = true by decide] at k; exact k
  haveI : PC Try.prog 13 [.p (.sl 2 [[.i 1, .k .u64 1]] false)] True (.p (.b true)) := ⟨fun _ => c4⟩
  have c5 : PCall Try.prog 20 [.p (.sl 2 [[.i 1, .k .u64 1]] false), .p (.sl 2 [[.i 1, .k .u64 1]] false)] (.p (.b true)) := by
    have k := sameD_w [(1, 1)] [(1, 1)] false false (by decide)
    rw [decide_eq_true rfl] at k; exact k
  haveI : PC Try.prog 20 [.p (.sl 2 [[.i 1, .k .u64 1]] false), .p (.sl 2 [[.i 1, .k .u64 1]] false)] True (.p (.b true)) := ⟨fun _ => c5⟩
  have c6 : PCall Try.prog 18 [.p (.sl 2 [[.i 1, .k .u64 1], [.i 2, .k .u64 3]] false)] (.a [.p (.k .u64 1), .p (.k .u64 3), .p (.k .u64 0), .p (.k .u64 0), .p (.k .u64 0), .p (.k .u64 0), .p (.k .u64 0), .p (.k .u64 0)]) := by
    have k := span_w [(1, 1), (2, 3)] false (by decide)
    rw [show spanTo [(1, 1), (2, 3)] ([(1, 1), (2, 3)] : List Dot).length = [1, 3, 0, 0, 0, 0, 0, 0] by decide] at k; exact k
  haveI : PC Try.prog 18 [.p (.sl 2 [[.i 1, .k .u64 1], [.i 2, .k .u64 3]] false)] True (.a [.p (.k .u64 1), .p (.k .u64 3), .p (.k .u64 0), .p (.k .u64 0), .p (.k .u64 0), .p (.k .u64 0), .p (.k .u64 0), .p (.k .u64 0)]) := ⟨fun _ => c6⟩
  have c7 : PCall Try.prog 15 [.p (.sl 2 [[.i 1, .k .u64 1], [.i 2, .k .u64 3]] false), .a [.p (.i 2), .p (.k .u64 3)]] (.p (.b true)) := by
    have k := dHas_w [(1, 1), (2, 3)] false (2, 3) (by decide)
    rw [show decide (((2, 3) : Dot) ∈ ([(1, 1), (2, 3)] : List Dot)) = true by decide] at k; exact k
  haveI : PC Try.prog 15 [.p (.sl 2 [[.i 1, .k .u64 1], [.i 2, .k .u64 3]] false), .a [.p (.i 2), .p (.k .u64 3)]] True (.p (.b true)) := ⟨fun _ => c7⟩
  have c8 : PCall Try.prog 29 [.p (.sl 2 [[.i 1, .k .u64 1], [.i 2, .k .u64 3]] false), .a [.p (.k .u64 1), .p (.k .u64 0), .p (.k .u64 0), .p (.k .u64 0), .p (.k .u64 0), .p (.k .u64 0), .p (.k .u64 0), .p (.k .u64 0)]] (.p (.sl 2 [[.i 1, .k .u64 1]] false)) := by
    have k := within_w [(1, 1), (2, 3)] false [1, 0, 0, 0, 0, 0, 0, 0] rfl (by decide)
    rw [show (([(1, 1), (2, 3)] : List Dot).filter fun d => hasF [1, 0, 0, 0, 0, 0, 0, 0] d) = [(1, 1)] by decide] at k; exact k
  haveI : PC Try.prog 29 [.p (.sl 2 [[.i 1, .k .u64 1], [.i 2, .k .u64 3]] false), .a [.p (.k .u64 1), .p (.k .u64 0), .p (.k .u64 0), .p (.k .u64 0), .p (.k .u64 0), .p (.k .u64 0), .p (.k .u64 0), .p (.k .u64 0)]] True (.p (.sl 2 [[.i 1, .k .u64 1]] false)) := ⟨fun _ => c8⟩
  have c9 : PCall Try.prog 24 [.p (.sl 2 [[.i 1, .k .u64 1]] false), .p (.sl 2 [[.i 1, .k .u64 1], [.i 2, .k .u64 3]] false)] (.p (.sl 2 [[.i 1, .k .u64 1], [.i 2, .k .u64 3]] false)) := by
    have k := joinD_w [(1, 1)] [(1, 1), (2, 3)] false false (by decide) (by decide)
    rw [d2] at k; exact k
  haveI : PC Try.prog 24 [.p (.sl 2 [[.i 1, .k .u64 1]] false), .p (.sl 2 [[.i 1, .k .u64 1], [.i 2, .k .u64 3]] false)] True (.p (.sl 2 [[.i 1, .k .u64 1], [.i 2, .k .u64 3]] false)) := ⟨fun _ => c9⟩
  have c10 : PCall Try.prog 26 [.p (.sl 2 [[.i 1, .k .u64 1]] false), .p (.sl 2 [[.i 1, .k .u64 1], [.i 2, .k .u64 3]] false)] (.p (.sl 2 [[.i 1, .k .u64 1]] false)) := by
    have k := meetD_w [(1, 1)] [(1, 1), (2, 3)] false false (by decide) (by decide)
    rw [d3] at k; exact k
  haveI : PC Try.prog 26 [.p (.sl 2 [[.i 1, .k .u64 1]] false), .p (.sl 2 [[.i 1, .k .u64 1], [.i 2, .k .u64 3]] false)] True (.p (.sl 2 [[.i 1, .k .u64 1]] false)) := ⟨fun _ => c10⟩
  have c11 : OCAt Try.prog 44 [.o (.ptr 20 0 0), .p (.sl 2 [[.i 1, .k .u64 1]] false)] [(20, (1, some (.abs (wrA []))))] [] (.tup []) [(20, (1, some (.abs (wrA B6))))] := by
    have k := (dput_o 0 [] [(1, 1)] false (by unfold DQ; decide) (by decide) (by decide)).one 20
    rw [p6] at k; exact k
  haveI : OC Try.prog 44 [.o (.ptr 20 0 0), .p (.sl 2 [[.i 1, .k .u64 1]] false)] [(20, (1, some (.abs (wrA []))))] [] True (.tup []) [(20, (1, some (.abs (wrA B6))))] := ⟨fun _ => c11⟩
  have hB : ∀ b ∈ B6, b < 256 := by decide
  have hBl : B6.length ≤ 1000000000 := by decide
  have c12 : OCAt Try.prog 45 [.o (.ptr 26 0 0)] [(26, (1, some (.box 132 [.p (.b true), .p (.sl 1 (B6.map bR) false), .p (.i 0)])))] [] (.p (.sl 2 [[.i 1, .k .u64 1]] false)) [(26, (1, some (rdM ([], 0))))] := by
    have k := (dtake_o 0 (B6, 0) hB hBl).one 26
    rw [t6] at k; exact k
  haveI : OC Try.prog 45 [.o (.ptr 26 0 0)] [(26, (1, some (.box 132 [.p (.b true), .p (.sl 1 (B6.map bR) false), .p (.i 0)])))] [] True (.p (.sl 2 [[.i 1, .k .u64 1]] false)) [(26, (1, some (rdM ([], 0))))] := ⟨fun _ => c12⟩
  clear c0 c1 c2 c3 c4 c5 c6 c7 c8 c9 c10 c11 c12
  repeat' (first
      | refine rnC ?_
      | refine rnSB ?_
      | refine rnG ?_
      | refine rnU ?_
      | ((fail_if_success (refine rnKn ?_)); refine rnP ?_ ?_ <;> (intro hq; try (have hq' := hq; simp only [hqs] at hq')))
      | refine rkC ?_
      | refine rkSB ?_
      | refine rkF ?_
      | refine rkU ?_
      | ((fail_if_success (refine rkKn ?_)); refine rkP ?_ ?_ <;> (intro hq; try (have hq' := hq; simp only [hqs] at hq')))
      | refine stp ?_
      | refine ifT ?_
      | refine ifF ?_
      | (refine ifQ ?_ ?_ <;> (try (intro hn)))
      | (refine ifB ?_ ?_ <;> (intro hq; try (have hq' := hq; simp only [hqs] at hq'))))
  refine rn_says (says_nil_box (p := 20) (o := 901) (ty := 5) (es := 1) rfl rfl (by decide) (by decide)) rfl ?_
  refine rn_says (says_pack (p := 20) (o := 901) (pre := []) (post := []) (rows := ([] : List Nat).map bR) rfl rfl rfl rfl rfl (by decide)) rfl ?_
  repeat' (first
      | refine rnC ?_
      | refine rnSB ?_
      | refine rnG ?_
      | refine rnU ?_
      | ((fail_if_success (refine rnKn ?_)); refine rnP ?_ ?_ <;> (intro hq; try (have hq' := hq; simp only [hqs] at hq')))
      | refine rkC ?_
      | refine rkSB ?_
      | refine rkF ?_
      | refine rkU ?_
      | ((fail_if_success (refine rkKn ?_)); refine rkP ?_ ?_ <;> (intro hq; try (have hq' := hq; simp only [hqs] at hq')))
      | refine stp ?_
      | refine ifT ?_
      | refine ifF ?_
      | (refine ifQ ?_ ?_ <;> (try (intro hn)))
      | (refine ifB ?_ ?_ <;> (intro hq; try (have hq' := hq; simp only [hqs] at hq'))))
  as_aux_lemma =>
    repeat' (first
        | refine rnC ?_
        | refine rnSB ?_
        | refine rnG ?_
        | refine rnU ?_
        | ((fail_if_success (refine rnKn ?_)); refine rnP ?_ ?_ <;> (intro hq; try (have hq' := hq; simp only [hqs] at hq')))
        | refine rkC ?_
        | refine rkSB ?_
        | refine rkF ?_
        | refine rkU ?_
        | ((fail_if_success (refine rkKn ?_)); refine rkP ?_ ?_ <;> (intro hq; try (have hq' := hq; simp only [hqs] at hq')))
        | refine stp ?_
        | refine aws_draws [] mixed (by kernel_rfl) ?_
        | refine ifT ?_
        | refine ifF ?_
        | (refine ifQ ?_ ?_ <;> (try (intro hn)))
        | (refine ifB ?_ ?_ <;> (intro hq; try (have hq' := hq; simp only [hqs] at hq'))))
    exact rt1 rfl rfl finS_p rfl
instance alive4_i : PC Try.prog 9 [] True (.p (.b true)) := ⟨fun _ => alive4_w⟩
theorem great4_w (l : List Dot) (ex : Bool) : PCall Try.prog 8 [.p (.sl 2 (l.map dR) ex)] (.p (.b (decide (60 < (l.length : Int))))) := by
  refine pcall_of Try.func8 rfl (fun w0 F S0 M0 => ?_)
  as_aux_lemma =>
    repeat' (first
        | refine rnC ?_
        | refine rnSB ?_
        | refine rnG ?_
        | refine rnU ?_
        | ((fail_if_success (refine rnKn ?_)); refine rnP ?_ ?_ <;> (intro hq; try (have hq' := hq; simp only [hqs] at hq')))
        | refine rkC ?_
        | refine rkSB ?_
        | refine rkF ?_
        | refine rkU ?_
        | ((fail_if_success (refine rkKn ?_)); refine rkP ?_ ?_ <;> (intro hq; try (have hq' := hq; simp only [hqs] at hq')))
        | refine stp ?_
        | refine aws_draws [] mixed (by kernel_rfl) ?_
        | refine ifT ?_
        | refine ifF ?_
        | (refine ifQ ?_ ?_ <;> (try (intro hn)))
        | (refine ifB ?_ ?_ <;> (intro hq; try (have hq' := hq; simp only [hqs] at hq'))))
    exact rt1 rfl rfl finS_p rfl
instance great4_i {l : List Dot} {ex : Bool} : PC Try.prog 8 [.p (.sl 2 (l.map dR) ex)] True (.p (.b (decide (60 < (l.length : Int))))) := ⟨fun _ => great4_w l ex⟩
end Go.Proofs.Ytgiekdhipbikoaa.Ca
