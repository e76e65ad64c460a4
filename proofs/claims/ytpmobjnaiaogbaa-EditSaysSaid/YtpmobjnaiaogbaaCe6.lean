/- edits: maundlaw07.alive -/
import Derived.Test.YtpmobjnaiaogbaaCe5
import Derived.Test.YtpmobjnaiaogbaaCd1
namespace Go.Proofs.Ytpmobjnaiaogbaa.Ca
open Go Go.RowKit Go.Aw Go.Aw.Cart Go.Aw.Ord Go.Sort
set_option linter.unusedVariables false
set_option linter.unusedSimpArgs false
set_option maxRecDepth 8000
set_option maxHeartbeats 4000000
theorem do_add {c : Crt} {nd : Int} {o : Op3} {s t : List Ent} {f : List Dot} (hr : rightF c.1 c.2 = true) (hm : mayF o = true) (hn : nodeF nd = true) (ha : addsF o = true) (hg : getF c.1 nd ≠ 18446744073709551615) (hs : stL o c.2 = s) (h4 : s.length < 40) (ht : (s ++ [newE c.1 nd o]).Perm t) (htu : t.Pairwise ltE) (hf : offF o c.2 = f) :
    doF c nd o = (((withF c.1 (newD c.1 nd), t), (o.1, o.2.1, o.2.2, newD c.1 nd, f)), 0) := by
  unfold doF
  rw [if_neg (by simp [hr]), if_neg (by simp [hm]), if_neg (by simp [hn]), if_neg (by simp [ha]), if_neg hg, hs, if_neg (by omega), hf, sortE_is ht.symm (htu.imp fun {a b} k => ltE_as _ _ k)]
theorem do_take {c : Crt} {nd : Int} {o : Op3} {s : List Ent} {f : List Dot} (hr : rightF c.1 c.2 = true) (hm : mayF o = true) (hn : nodeF nd = true) (ha : addsF o = false) (hs : stL o c.2 = s) (hf : offF o c.2 = f) (h0 : f.length ≠ 0) :
    doF c nd o = (((c.1, s), (o.1, 0, 0, (0, 0), f)), 0) := by
  unfold doF
  rw [if_neg (by simp [hr]), if_neg (by simp [hm]), if_neg (by simp [hn]), if_pos ha, hf, if_neg h0, hs]
theorem do_none {c : Crt} {nd : Int} {o : Op3} (hr : rightF c.1 c.2 = true) (hm : mayF o = true) (hn : nodeF nd = true) (ha : addsF o = false) (hf : offF o c.2 = []) : doF c nd o = (((zeroV, []), zeroE), 4) := by
  unfold doF
  rw [if_neg (by simp [hr]), if_neg (by simp [hm]), if_neg (by simp [hn]), if_pos ha, hf, if_pos (show ([] : List Dot).length = 0 from rfl)]
theorem off_are {o : Op3} {l : List Ent} {d : List Dot} (h : (goL o l).map dotE = d) (hu : d.Pairwise ltD) (hd : ∀ x ∈ d, dotF x = true) (h2 : d.length ≤ 2000) : offF o l = d := by
  have hl : (goL o l).length ≤ 2000 := by rw [← h, List.length_map] at h2; exact h2
  rw [offF, live_set _ hl, h, setF_id hu hd]
theorem ltE_ab {a b : Ent} (h : ltE a b) : [a, b].Pairwise ltE := List.pairwise_cons.2 ⟨fun x hx => by rw [List.mem_singleton.1 hx]; exact h, List.pairwise_singleton _ _⟩
theorem ltD_ab {a b : Dot} (h : ltD a b) : [a, b].Pairwise ltD := List.pairwise_cons.2 ⟨fun x hx => by rw [List.mem_singleton.1 hx]; exact h, List.pairwise_singleton _ _⟩
namespace K7
def V1 : List Int := [0, 1, 0, 0, 0, 0, 0, 0]
def L1 : List Ent := [(5, 2, 1, 4)]
theorem r1 : rightF V1 L1 = true := rightF_iff.2 ⟨by decide, by decide, by decide⟩
def V2 : List Int := [0, 1, 1, 0, 0, 0, 0, 0]
def L2 : List Ent := [(5, 2, 1, 4), (5, 3, 1, -1)]
theorem r2 : rightF V2 L2 = true := rightF_iff.2 ⟨by decide, by decide, by decide⟩
def V3 : List Int := [0, 2, 1, 0, 0, 0, 0, 0]
def L3 : List Ent := [(5, 2, 2, 3)]
theorem r3 : rightF V3 L3 = true := rightF_iff.2 ⟨by decide, by decide, by decide⟩
theorem rz : rightF zeroV [] = true := rightF_iff.2 ⟨by decide, by decide, by decide⟩
theorem s1 : doF (zeroV, []) 2 (1, 5, 4) = (((V1, L1), (1, 5, 4, (2, 1), [])), 0) := do_add (s := []) rz (by decide) (by decide) (by decide) (by decide) rfl (by decide) (.refl _) (List.pairwise_singleton _ _) (off_are (d := []) rfl .nil (by decide) (by decide))
theorem s2 : doF (V1, L1) 3 (1, 5, -1) = (((V2, L2), (1, 5, -1, (3, 1), [])), 0) := do_add (s := L1) r1 (by decide) (by decide) (by decide) (by decide) (by decide) (by decide) (.refl _) (ltE_ab (by unfold ltE; decide)) (off_are (d := []) (by decide) .nil (by decide) (by decide))
theorem s3 : doF (V2, L2) 2 (2, 5, 3) = (((V3, L3), (2, 5, 3, (2, 2), [(2, 1), (3, 1)])), 0) := do_add (s := []) r2 (by decide) (by decide) (by decide) (by decide) (by decide) (by decide) (.refl _) (List.pairwise_singleton _ _) (off_are (by decide) (ltD_ab (by unfold ltD; decide)) (by decide) (by decide))
theorem s4 : doF (V3, L3) 2 (3, 6, 0) = (((zeroV, []), zeroE), 4) := do_none r3 (by decide) (by decide) (by decide) (off_are (d := []) (by decide) .nil (by decide) (by decide))
theorem s5 : doF (V3, L3) 1 (4, 0, 0) = (((V3, []), (4, 0, 0, (0, 0), [(2, 2)])), 0) := do_take r3 (by decide) (by decide) (by decide) (by decide) (off_are (by decide) (List.pairwise_singleton _ _) (by decide) (by decide)) (by decide)
end K7
/-- two cells of a variable, from some place on -/
theorem lop_ld_c2 {C : Ctx} {o : Oper} {σ : St} {T : TypeId} {x : Operand} {k : TK} {sz by_ : Nat} {ob g off n : Nat} {ty : TypeId} {cs : List AC} {c0 c1 : AC} (ho : o.op = .load T x) (hT : TI C.P T k sz by_) (hx : σ.look x = .o (.ptr ob g off)) (hm : σ.mem ob = (n, some (.box ty cs))) (hn : n = g + 1) (hk : k.agg = true) (hs : sz = 2) (hc : (cs.drop off).take 2 = [c0, c1]) (hd : dOk C o.dst = true) :
    LOp C o σ ⟨.a [c0, c1], []⟩ (fun y => y == ob) := by
  subst hs
  have hl := congrArg List.length hc
  rw [List.length_take, List.length_drop, List.length_cons, List.length_singleton] at hl
  exact lop_ld_cells ho hT hx hm hn hk (decide_eq_true (by omega)) hc hd
namespace E6
theorem lopC {C : Ctx} {o : Oper} {σ : St} {e : Eff} {ro : Nat → Bool} (h : LOp C o σ e ro := by
    first
      | (apply lop_bsb; (focus rfl); (focus exact inferInstance); (focus exact inferInstance); (focus exact inferInstance); (focus repeat' (first | exact All2.nil | (apply bs_cons; (focus rfl); (focus rfl); (focus rfl)))); (focus rfl); (focus decide); (focus first | decide | omega); (focus repeat' (first | exact All2.nil | (apply All2.cons; (focus rfl)))); (focus rfl))
      | exact E4.lopC
      | (apply gLoad; (focus rfl); apply lop_ld_c2; (focus rfl); (focus exact inferInstance); (focus rfl); (focus rfl); (focus rfl); (focus rfl); (focus rfl); (focus rfl); (focus rfl))
      | (apply lop_call2; (focus rfl); (focus exact inferInstance); (focus first | exact lk_v8 (by assumption) rfl | exact lk_v8l rfl); (focus first | exact lk_v8 (by assumption) rfl | exact lk_v8l rfl); (focus exact inferInstance); (focus exact inferInstance); (focus first | exact True.intro | assumption | rfl | omega | ((repeat' (first | assumption | refine And.intro ?_ ?_ | omega | rfl)); done) | fail); (focus rfl))
      | fail) : LOp C o σ e ro := h
section steps
variable {C : Ctx} {ops : Array Oper} {o : Oper} {rest : List Oper} {K : St → Prop} {σ : St} {e : Eff} {ro : Nat → Bool} {W : List (Nat × Nat)} {i : Nat}
theorem rnC {d : Nat} (hk : RunN C ops rest K (e.app (some d) σ)) (hg : Guard ops σ o true := by first | exact gd_n rfl rfl | exact gd_t rfl rfl rfl rfl | exact gd_t rfl rfl rfl (by assumption)) (hd : o.dst = some d := by rfl) (h : LOp C o σ e ro := by exact lopC) : RunN C ops (o :: rest) K σ := rn_any hg hd h hk
theorem rkC {d : Nat} (hk : RunK C ops W (i + 1) rest K (e.app (some d) σ)) (hg : Guard ops σ o true := by first | exact gd_n rfl rfl | exact gd_t rfl rfl rfl rfl | exact gd_t rfl rfl rfl (by assumption)) (hd' : o.dst = some d := by rfl) (hd : dOk C o.dst = true := by rfl) (h : LOp C o σ e ro := by exact lopC)
    (hro : ∀ x, ro x = true → okObj ops W i x = true := by first | exact fun _ => ro_none | exact ro_one rfl | exact ro_k1 rfl | exact ro_one (by kernel_rfl) | exact ro_k1 (by kernel_rfl) | exact ro_kIn (by decide)) (hob : ∀ p ∈ e.obj, (i, p.1) ∈ W := by first | exact ob_none | exact ob_one (by decide) | decide) : RunK C ops W i (o :: rest) K σ := rk_wr hg hd' hd h hro hob hk
end steps
end E6
open E6 K7
abbrev xLe (x : Evt) (ex : Bool) : List AC := [.p (.i x.1), .p (.i x.2.1), .p (.i x.2.2.1), .p (.i x.2.2.2.1.1), .p (.k .u64 x.2.2.2.1.2), .p (.sl 2 (x.2.2.2.2.map dR) ex)]
theorem sameX_w (x : Evt) (ex ey : Bool) (h : x.2.2.2.2.length ≤ 1000000000) : PCall Try.prog 67 [.a (xLe x ex), .a (xLe x ey)] (.p (.b true)) := by
  refine pcall_of Try.func67 rfl (fun w0 F S0 M0 => ?_)
  obtain ⟨k, i, q, d, l⟩ := x
  dsimp only at h ⊢
  have e1 : decide (k = k) = true := decide_eq_true rfl
  have e2 : decide (i = i) = true := decide_eq_true rfl
  have e3 : decide (q = q) = true := decide_eq_true rfl
  have e4 := vEqD d d
  rw [decide_eq_true rfl] at e4
  have e5 : decide (l = l) = true := decide_eq_true rfl
  as_aux_lemma =>
    repeat' (first
        | refine rnC ?_
        | refine rnSB ?_
        | refine rnG ?_
        | refine rnU ?_
        | ((fail_if_success (refine rnKn ?_)); refine rnP ?_ ?_ <;> (intro hq; try (have hq' := hq; simp only [hqs] at hq')))
        | refine rkC ?_
        | refine rkSB ?_
        | refine rkF ?_
        | refine rkU ?_
        | ((fail_if_success (refine rkKn ?_)); refine rkP ?_ ?_ <;> (intro hq; try (have hq' := hq; simp only [hqs] at hq')))
        | refine stp ?_
        | refine aws_draws [] mixed (by kernel_rfl) ?_
        | refine ifT ?_
        | refine ifF ?_
        | (refine ifQ ?_ ?_ <;> (try (intro hn)))
        | (refine ifB ?_ ?_ <;> (intro hq; try (have hq' := hq; simp only [hqs] at hq'))))
    exact rt1 rfl rfl finS_p (rb e5.symm)
theorem alive7_w : PCall Try.prog 30 [] (.p (.b true)) := by
  refine pcall_of Try.func30 rfl (fun w0 F S0 M0 => ?_)
  have c0 : PCall Try.prog 31 [.a [.p (.k .u64 0), .p (.k .u64 0), .p (.k .u64 0), .p (.k .u64 0), .p (.k .u64 0), .p (.k .u64 0), .p (.k .u64 0), .p (.k .u64 0), .p (.v (.slice none 0 0))], .p (.i 2), .a [.p (.i 1), .p (.i 5), .p (.i 4)]] (.tup [.agg [.p (.k .u64 0), .p (.k .u64 1), .p (.k .u64 0), .p (.k .u64 0), .p (.k .u64 0), .p (.k .u64 0), .p (.k .u64 0), .p (.k .u64 0), .p (.sl 4 [[.i 5, .i 2, .k .u64 1, .i 4]] false)], .agg [.p (.i 1), .p (.i 5), .p (.i 4), .p (.i 2), .p (.k .u64 1), .p (.sl 2 [] false)], .one (.p (.i 0))]) := by
    have k := do_w zeroV [] false 2 (1, 5, 4) rfl (by decide) (by decide)
    rw [s1] at k
    refine PCall.ent k (.cons (Ent1.cells (cs := [.k .u64 0, .k .u64 0, .k .u64 0, .k .u64 0, .k .u64 0, .k .u64 0, .k .u64 0, .k .u64 0, .v (.slice none 0 0)]) (ds := cR zeroV [] false) ?_) (.cons Ent1.refl (.cons Ent1.refl .nil)))
    exact .cons .refl (.cons .refl (.cons .refl (.cons .refl (.cons .refl (.cons .refl (.cons .refl (.cons .refl (.cons .nil .nil))))))))
  haveI : PC Try.prog 31 [.a [.p (.k .u64 0), .p (.k .u64 0), .p (.k .u64 0), .p (.k .u64 0), .p (.k .u64 0), .p (.k .u64 0), .p (.k .u64 0), .p (.k .u64 0), .p (.v (.slice none 0 0))], .p (.i 2), .a [.p (.i 1), .p (.i 5), .p (.i 4)]] True (.tup [.agg [.p (.k .u64 0), .p (.k .u64 1), .p (.k .u64 0), .p (.k .u64 0), .p (.k .u64 0), .p (.k .u64 0), .p (.k .u64 0), .p (.k .u64 0), .p (.sl 4 [[.i 5, .i 2, .k .u64 1, .i 4]] false)], .agg [.p (.i 1), .p (.i 5), .p (.i 4), .p (.i 2), .p (.k .u64 1), .p (.sl 2 [] false)], .one (.p (.i 0))]) := ⟨fun _ => c0⟩
  have c1 : PCall Try.prog 31 [.a [.p (.k .u64 0), .p (.k .u64 1), .p (.k .u64 0), .p (.k .u64 0), .p (.k .u64 0), .p (.k .u64 0), .p (.k .u64 0), .p (.k .u64 0), .p (.sl 4 [[.i 5, .i 2, .k .u64 1, .i 4]] false)], .p (.i 3), .a [.p (.i 1), .p (.i 5), .p (.i (-1))]] (.tup [.agg [.p (.k .u64 0), .p (.k .u64 1), .p (.k .u64 1), .p (.k .u64 0), .p (.k .u64 0), .p (.k .u64 0), .p (.k .u64 0), .p (.k .u64 0), .p (.sl 4 [[.i 5, .i 2, .k .u64 1, .i 4], [.i 5, .i 3, .k .u64 1, .i (-1)]] false)], .agg [.p (.i 1), .p (.i 5), .p (.i (-1)), .p (.i 3), .p (.k .u64 1), .p (.sl 2 [] false)], .one (.p (.i 0))]) := by
    have k := do_w V1 L1 false 3 (1, 5, -1) rfl (by decide) (by decide)
    rw [s2] at k
    exact k
  haveI : PC Try.prog 31 [.a [.p (.k .u64 0), .p (.k .u64 1), .p (.k .u64 0), .p (.k .u64 0), .p (.k .u64 0), .p (.k .u64 0), .p (.k .u64 0), .p (.k .u64 0), .p (.sl 4 [[.i 5, .i 2, .k .u64 1, .i 4]] false)], .p (.i 3), .a [.p (.i 1), .p (.i 5), .p (.i (-1))]] True (.tup [.agg [.p (.k .u64 0), .p (.k .u64 1), .p (.k .u64 1), .p (.k .u64 0), .p (.k .u64 0), .p (.k .u64 0), .p (.k .u64 0), .p (.k .u64 0), .p (.sl 4 [[.i 5, .i 2, .k .u64 1, .i 4], [.i 5, .i 3, .k .u64 1, .i (-1)]] false)], .agg [.p (.i 1), .p (.i 5), .p (.i (-1)), .p (.i 3), .p (.k .u64 1), .p (.sl 2 [] false)], .one (.p (.i 0))]) := ⟨fun _ => c1⟩
  have c2 : PCall Try.prog 31 [.a [.p (.k .u64 0), .p (.k .u64 1), .p (.k .u64 1), .p (.k .u64 0), .p (.k .u64 0), .p (.k .u64 0), .p (.k .u64 0), .p (.k .u64 0), .p (.sl 4 [[.i 5, .i 2, .k .u64 1, .i 4], [.i 5, .i 3, .k .u64 1, .i (-1)]] false)], .p (.i 2), .a [.p (.i 2), .p (.i 5), .p (.i 3)]] (.tup [.agg [.p (.k .u64 0), .p (.k .u64 2), .p (.k .u64 1), .p (.k .u64 0), .p (.k .u64 0), .p (.k .u64 0), .p (.k .u64 0), .p (.k .u64 0), .p (.sl 4 [[.i 5, .i 2, .k .u64 2, .i 3]] false)], .agg [.p (.i 2), .p (.i 5), .p (.i 3), .p (.i 2), .p (.k .u64 2), .p (.sl 2 [[.i 2, .k .u64 1], [.i 3, .k .u64 1]] false)], .one (.p (.i 0))]) := by
    have k := do_w V2 L2 false 2 (2, 5, 3) rfl (by decide) (by decide)
    rw [s3] at k
    exact k
  haveI : PC Try.prog 31 [.a [.p (.k .u64 0), .p (.k .u64 1), .p (.k .u64 1), .p (.k .u64 0), .p (.k .u64 0), .p (.k .u64 0), .p (.k .u64 0), .p (.k .u64 0), .p (.sl 4 [[.i 5, .i 2, .k .u64 1, .i 4], [.i 5, .i 3, .k .u64 1, .i (-1)]] false)], .p (.i 2), .a [.p (.i 2), .p (.i 5), .p (.i 3)]] True (.tup [.agg [.p (.k .u64 0), .p (.k .u64 2), .p (.k .u64 1), .p (.k .u64 0), .p (.k .u64 0), .p (.k .u64 0), .p (.k .u64 0), .p (.k .u64 0), .p (.sl 4 [[.i 5, .i 2, .k .u64 2, .i 3]] false)], .agg [.p (.i 2), .p (.i 5), .p (.i 3), .p (.i 2), .p (.k .u64 2), .p (.sl 2 [[.i 2, .k .u64 1], [.i 3, .k .u64 1]] false)], .one (.p (.i 0))]) := ⟨fun _ => c2⟩
  have c3 : PCall Try.prog 31 [.a [.p (.k .u64 0), .p (.k .u64 2), .p (.k .u64 1), .p (.k .u64 0), .p (.k .u64 0), .p (.k .u64 0), .p (.k .u64 0), .p (.k .u64 0), .p (.sl 4 [[.i 5, .i 2, .k .u64 2, .i 3]] false)], .p (.i 2), .a [.p (.i 3), .p (.i 6), .p (.i 0)]] (.tup [.agg [.p (.k .u64 0), .p (.k .u64 0), .p (.k .u64 0), .p (.k .u64 0), .p (.k .u64 0), .p (.k .u64 0), .p (.k .u64 0), .p (.k .u64 0), .p (.sl 4 [] false)], .agg [.p (.i 0), .p (.i 0), .p (.i 0), .p (.i 0), .p (.k .u64 0), .p (.sl 2 [] false)], .one (.p (.i 4))]) := by
    have k := do_w V3 L3 false 2 (3, 6, 0) rfl (by decide) (by decide)
    rw [s4] at k
    exact k
  haveI : PC Try.prog 31 [.a [.p (.k .u64 0), .p (.k .u64 2), .p (.k .u64 1), .p (.k .u64 0), .p (.k .u64 0), .p (.k .u64 0), .p (.k .u64 0), .p (.k .u64 0), .p (.sl 4 [[.i 5, .i 2, .k .u64 2, .i 3]] false)], .p (.i 2), .a [.p (.i 3), .p (.i 6), .p (.i 0)]] True (.tup [.agg [.p (.k .u64 0), .p (.k .u64 0), .p (.k .u64 0), .p (.k .u64 0), .p (.k .u64 0), .p (.k .u64 0), .p (.k .u64 0), .p (.k .u64 0), .p (.sl 4 [] false)], .agg [.p (.i 0), .p (.i 0), .p (.i 0), .p (.i 0), .p (.k .u64 0), .p (.sl 2 [] false)], .one (.p (.i 4))]) := ⟨fun _ => c3⟩
  have c4 : PCall Try.prog 31 [.a [.p (.k .u64 0), .p (.k .u64 2), .p (.k .u64 1), .p (.k .u64 0), .p (.k .u64 0), .p (.k .u64 0), .p (.k .u64 0), .p (.k .u64 0), .p (.sl 4 [[.i 5, .i 2, .k .u64 2, .i 3]] false)], .p (.i 1), .a [.p (.i 4), .p (.i 0), .p (.i 0)]] (.tup [.agg [.p (.k .u64 0), .p (.k .u64 2), .p (.k .u64 1), .p (.k .u64 0), .p (.k .u64 0), .p (.k .u64 0), .p (.k .u64 0), .p (.k .u64 0), .p (.sl 4 [] false)], .agg [.p (.i 4), .p (.i 0), .p (.i 0), .p (.i 0), .p (.k .u64 0), .p (.sl 2 [[.i 2, .k .u64 2]] false)], .one (.p (.i 0))]) := by
    have k := do_w V3 L3 false 1 (4, 0, 0) rfl (by decide) (by decide)
    rw [s5] at k
    exact k
  haveI : PC Try.prog 31 [.a [.p (.k .u64 0), .p (.k .u64 2), .p (.k .u64 1), .p (.k .u64 0), .p (.k .u64 0), .p (.k .u64 0), .p (.k .u64 0), .p (.k .u64 0), .p (.sl 4 [[.i 5, .i 2, .k .u64 2, .i 3]] false)], .p (.i 1), .a [.p (.i 4), .p (.i 0), .p (.i 0)]] True (.tup [.agg [.p (.k .u64 0), .p (.k .u64 2), .p (.k .u64 1), .p (.k .u64 0), .p (.k .u64 0), .p (.k .u64 0), .p (.k .u64 0), .p (.k .u64 0), .p (.sl 4 [] false)], .agg [.p (.i 4), .p (.i 0), .p (.i 0), .p (.i 0), .p (.k .u64 0), .p (.sl 2 [[.i 2, .k .u64 2]] false)], .one (.p (.i 0))]) := ⟨fun _ => c4⟩
  have c9 : PCall Try.prog 67 [.a [.p (.i 4), .p (.i 0), .p (.i 0), .p (.i 0), .p (.k .u64 0), .p (.sl 2 [[.i 2, .k .u64 2]] false)], .a [.p (.i 4), .p (.i 0), .p (.i 0), .p (.i 0), .p (.k .u64 0), .p (.sl 2 [[.i 2, .k .u64 2]] true)]] (.p (.b true)) := sameX_w (4, 0, 0, (0, 0), [(2, 2)]) false true (by decide)
  haveI : PC Try.prog 67 [.a [.p (.i 4), .p (.i 0), .p (.i 0), .p (.i 0), .p (.k .u64 0), .p (.sl 2 [[.i 2, .k .u64 2]] false)], .a [.p (.i 4), .p (.i 0), .p (.i 0), .p (.i 0), .p (.k .u64 0), .p (.sl 2 [[.i 2, .k .u64 2]] true)]] True (.p (.b true)) := ⟨fun _ => c9⟩
  clear c0 c1 c2 c3 c4 c9
  as_aux_lemma =>
    repeat' (first
        | refine rnC ?_
        | refine rnSB ?_
        | refine rnG ?_
        | refine rnU ?_
        | ((fail_if_success (refine rnKn ?_)); refine rnP ?_ ?_ <;> (intro hq; try (have hq' := hq; simp only [hqs] at hq')))
        | refine rkC ?_
        | refine rkSB ?_
        | refine rkF ?_
        | refine rkU ?_
        | ((fail_if_success (refine rkKn ?_)); refine rkP ?_ ?_ <;> (intro hq; try (have hq' := hq; simp only [hqs] at hq')))
        | refine stp ?_
        | refine aws_draws [] mixed (by kernel_rfl) ?_
        | refine ifT ?_
        | refine ifF ?_
        | (refine ifQ ?_ ?_ <;> (try (intro hn)))
        | (refine ifB ?_ ?_ <;> (intro hq; try (have hq' := hq; simp only [hqs] at hq'))))
    exact rt1 rfl rfl finS_p rfl
instance alive7_i : PC Try.prog 30 [] True (.p (.b true)) := ⟨fun _ => alive7_w⟩
end Go.Proofs.Ytpmobjnaiaogbaa.Ca
