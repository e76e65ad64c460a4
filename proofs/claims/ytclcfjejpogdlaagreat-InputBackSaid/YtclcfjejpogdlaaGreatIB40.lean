/- inputs: their cells; which are the same -/
import Derived.Test.YtclcfjejpogdlaaGreatIB39
import Derived.Test.YtclcfjejpogdlaaGreatIB38
namespace Go.Aw
open Go Go.RowKit
set_option linter.unusedVariables false
set_option linter.unusedSimpArgs false
section
variable {c0 c1 c2 c3 c4 c5 c6 c : AC} {M N : List AC}
theorem il47 (h : M.length = 40) : (c0 :: c1 :: c2 :: c3 :: c4 :: c5 :: c6 :: M).length = 47 := by simp [h]
theorem ic7 (h : M.length = 40) : ((c0 :: c1 :: c2 :: c3 :: c4 :: c5 :: c6 :: M).drop (0 + 7)).take 40 = M := by
  show M.take 40 = M
  exact List.take_of_length_le (by omega)
theorem is7 (h : M.length = 40) : (c0 :: c1 :: c2 :: c3 :: c4 :: c5 :: c6 :: M).take (0 + 7) ++ N ++ (c0 :: c1 :: c2 :: c3 :: c4 :: c5 :: c6 :: M).drop (0 + 7 + 40) = c0 :: c1 :: c2 :: c3 :: c4 :: c5 :: c6 :: N := by
  show c0 :: c1 :: c2 :: c3 :: c4 :: c5 :: c6 :: (N ++ M.drop 40) = _
  rw [List.drop_of_length_le (by omega), List.append_nil]
theorem is3 {a b d : AC} : (c0 :: c1 :: c2 :: c3 :: c4 :: c5 :: c6 :: M).take (0 + 3) ++ [a, b, d] ++ (c0 :: c1 :: c2 :: c3 :: c4 :: c5 :: c6 :: M).drop (0 + 3 + 3) = c0 :: c1 :: c2 :: a :: b :: d :: c6 :: M := rfl
theorem is1 : (c0 :: c1 :: c2 :: c3 :: c4 :: c5 :: c6 :: M).set (0 + 1) c = c0 :: c :: c2 :: c3 :: c4 :: c5 :: c6 :: M := rfl
theorem is2 : (c0 :: c1 :: c2 :: c3 :: c4 :: c5 :: c6 :: M).set (0 + 2) c = c0 :: c1 :: c :: c3 :: c4 :: c5 :: c6 :: M := rfl
theorem is6 : (c0 :: c1 :: c2 :: c3 :: c4 :: c5 :: c6 :: M).set (0 + 6) c = c0 :: c1 :: c2 :: c3 :: c4 :: c5 :: c :: M := rfl
end
section
variable {C : Ctx} {o : Oper} {σ : St} {T : TypeId} {x y : Operand} {k : TK} {sz by_ ob g n off : Nat} {ty : TypeId}
theorem lop_ldi3 {cs : List AC} {a b c : AC} (ho : o.op = .load T x) (hT : TI C.P T k sz by_) (hx : σ.look x = .o (.ptr ob g (0 + 3))) (hm : σ.mem ob = (n, some (.box ty cs))) (hn : n = g + 1) (hk : k.agg = true) (hs : sz = 3) (hl : cs.length = 47) (hc : (cs.drop (0 + 3)).take 3 = [a, b, c]) (hd : dOk C o.dst = true) : LOp C o σ ⟨.a [a, b, c], []⟩ (fun y => y == ob) := by
  subst hs
  have := lop_load_box (o := o) ho hx hm hn hk (by omega) hd
  rwa [hc] at this
theorem lop_ldi7 {cs ds : List AC} (ho : o.op = .load T x) (hT : TI C.P T k sz by_) (hx : σ.look x = .o (.ptr ob g (0 + 7))) (hm : σ.mem ob = (n, some (.box ty cs))) (hn : n = g + 1) (hk : k.agg = true) (hs : sz = 40) (hl : cs.length = 47) (hc : (cs.drop (0 + 7)).take 40 = ds) (hd : dOk C o.dst = true) : LOp C o σ ⟨.a ds, []⟩ (fun y => y == ob) := by
  subst hs
  have := lop_load_box (o := o) ho hx hm hn hk (by omega) hd
  rwa [hc] at this
theorem lop_ldiA {cs : List AC} (ho : o.op = .load T x) (hT : TI C.P T k sz by_) (hx : σ.look x = .o (.ptr ob g 0)) (hm : σ.mem ob = (n, some (.box ty cs))) (hn : n = g + 1) (hk : k.agg = true) (hs : sz = 47) (hl : cs.length = 47) (hd : dOk C o.dst = true) : LOp C o σ ⟨.a cs, []⟩ (fun y => y == ob) :=
  lop_load_all (o := o) ho hx hm hn hk (hl.trans hs.symm) hd
theorem lop_sti {cs ds : List AC} {c : AC} (ho : o.op = .store T x y) (hT : TI C.P T k sz by_) (hdst : o.dst = none) (hx : σ.look x = .o (.ptr ob g off)) (hy : σ.look y = .o c) (hm : σ.mem ob = (n, some (.box ty cs))) (hn : n = g + 1) (hs : sz = 1) (hl : cs.length = 47) (ho47 : off < 47) (hds : cs.set off c = ds) : LOp C o σ ⟨.un, [(ob, (n, some (.box ty ds)))]⟩ (fun z => z == ob) :=
  lop_store_x ho hT hdst hx hy hm hn hs (by omega) hds
theorem lop_sti3 {cs ds es : List AC} (ho : o.op = .store T x y) (hT : TI C.P T k sz by_) (hdst : o.dst = none) (hx : σ.look x = .o (.ptr ob g (0 + 3))) (hy : σ.look y = .a es) (hm : σ.mem ob = (n, some (.box ty cs))) (hn : n = g + 1) (hs : sz = 3) (hl : cs.length = 47) (he : es.length = 3) (hds : cs.take (0 + 3) ++ es ++ cs.drop (0 + 3 + 3) = ds) : LOp C o σ ⟨.un, [(ob, (n, some (.box ty ds)))]⟩ (fun z => z == ob) := by
  subst hs
  have := lop_store (o := o) (hT := hT) (s := .agg es) ho hdst hx hy hm hn (by omega) (by simpa [SV.cells] using he)
  rw [show SV.cells (.agg es) = es from rfl, hds] at this
  exact this
theorem lop_sti7 {cs ds es : List AC} (ho : o.op = .store T x y) (hT : TI C.P T k sz by_) (hdst : o.dst = none) (hx : σ.look x = .o (.ptr ob g (0 + 7))) (hy : σ.look y = .a es) (hm : σ.mem ob = (n, some (.box ty cs))) (hn : n = g + 1) (hs : sz = 40) (hl : cs.length = 47) (he : es.length = 40) (hds : cs.take (0 + 7) ++ es ++ cs.drop (0 + 7 + 40) = ds) : LOp C o σ ⟨.un, [(ob, (n, some (.box ty ds)))]⟩ (fun z => z == ob) := by
  subst hs
  have := lop_store (o := o) (hT := hT) (s := .agg es) ho hdst hx hy hm hn (by omega) (by simpa [SV.cells] using he)
  rw [show SV.cells (.agg es) = es from rfl, hds] at this
  exact this
theorem lop_stiA {cs ds : List AC} (ho : o.op = .store T x y) (hT : TI C.P T k sz by_) (hdst : o.dst = none) (hx : σ.look x = .o (.ptr ob g 0)) (hy : σ.look y = .a ds) (hm : σ.mem ob = (n, some (.box ty cs))) (hn : n = g + 1) (hs : sz = 47) (hl : cs.length = 47) (hl2 : ds.length = 47) : LOp C o σ ⟨.un, [(ob, (n, some (.box ty ds)))]⟩ (fun z => z == ob) :=
  lop_store_all (o := o) ho hdst hx hy hm hn (hl.trans hs.symm) (hl2.trans hs.symm)
end
theorem stoI {C : Ctx} {o : Oper} {σ : St} {e : Eff} {ro : Nat → Bool} (h : LOp C o σ e ro := by
    first | (apply lop_sti; (focus rfl); (focus exact inferInstance); (focus rfl); (focus rfl); (focus rfl); (focus rfl); (focus rfl); (focus rfl); (focus exact il47 (by first | assumption | rfl | exact mlen (by first | assumption | (rw [List.length_map]; assumption) | rfl))); (focus decide); (focus first | exact is1 | exact is2 | exact is6)) | (apply lop_sti3; (focus rfl); (focus exact inferInstance); (focus rfl); (focus rfl); (focus rfl); (focus rfl); (focus rfl); (focus rfl); (focus exact il47 (by first | assumption | rfl | exact mlen (by first | assumption | (rw [List.length_map]; assumption) | rfl))); (focus rfl); (focus exact is3)) | (apply lop_sti7; (focus rfl); (focus exact inferInstance); (focus rfl); (focus rfl); (focus rfl); (focus rfl); (focus rfl); (focus rfl); (focus exact il47 (by first | assumption | rfl | exact mlen (by first | assumption | (rw [List.length_map]; assumption) | rfl))); (focus first | assumption | rfl | exact mlen (by first | assumption | (rw [List.length_map]; assumption) | rfl)); (focus exact is7 (by first | assumption | rfl | exact mlen (by first | assumption | (rw [List.length_map]; assumption) | rfl)))) | (apply lop_stiA; (focus rfl); (focus exact inferInstance); (focus rfl); (focus rfl); (focus rfl); (focus rfl); (focus rfl); (focus rfl); (focus first | rfl | exact il47 (by first | assumption | rfl | exact mlen (by first | assumption | (rw [List.length_map]; assumption) | rfl))); (focus exact il47 (by first | assumption | rfl | exact mlen (by first | assumption | (rw [List.length_map]; assumption) | rfl)))) | exact stoM | fail) : LOp C o σ e ro := h
section steps
variable {C : Ctx} {ops : Array Oper} {o : Oper} {rest : List Oper} {K : St → Prop} {σ : St} {e : Eff} {ro : Nat → Bool} {W : List (Nat × Nat)} {i : Nat}
theorem rnSI (hk : RunN C ops rest K (e.app none σ)) (hg : Guard ops σ o true := by first | exact gd_n rfl rfl | exact gd_t rfl rfl rfl rfl | exact gd_t rfl rfl rfl (by assumption)) (hd : o.dst = none := by rfl) (h : LOp C o σ e ro := by exact stoI) : RunN C ops (o :: rest) K σ := rn_sto hg hd h hk
theorem rkSI (hk : RunK C ops W (i + 1) rest K (e.app none σ)) (hg : Guard ops σ o true := by first | exact gd_n rfl rfl | exact gd_t rfl rfl rfl rfl | exact gd_t rfl rfl rfl (by assumption)) (hd' : o.dst = none := by rfl) (h : LOp C o σ e ro := by exact stoI)
    (hro : ∀ x, ro x = true → okObj ops W i x = true := by first | exact fun _ => ro_none | exact ro_one rfl | exact ro_one (by kernel_rfl) | exact ro_kIn (by decide)) (hob : ∀ p ∈ e.obj, (i, p.1) ∈ W := by first | exact ob_none | exact ob_one (by decide) | decide) : RunK C ops W i (o :: rest) K σ := rk_sto hg hd' h hro hob hk
end steps
end Go.Aw
namespace Go.Proofs.YtclcfjejpogdlaaGreat.Wi
open Go Go.RowKit Go.Aw Go.Aw.Cart Go.Aw.Tree Go.Proofs.YtclcfjejpogdlaaGreat.Ca Go.Proofs.YtclcfjejpogdlaaGreat.Rg
set_option linter.unusedVariables false
set_option linter.unusedSimpArgs false
set_option maxRecDepth 8000
set_option maxHeartbeats 4000000
/-- an input's cells, over its message's -/
abbrev iC (x : Inp) (M : List AC) : List AC := .p (.i x.kind) :: .p (.i x.id) :: .p (.v (.string (strOf x.key))) :: .p (.i x.op.1) :: .p (.i x.op.2.1) :: .p (.i x.op.2.2) :: .p (.k .u64 (x.draw : Int)) :: M
abbrev iV (x : Inp) : AV := .a (iC x (mL x.msg))
/-- a message's cells that nobody wrote -/
abbrev zMC : List AC := .p (.i 0) :: .p (.i 0) :: .p (.i 0) :: .p (.i 0) :: .p (.i 0) :: (zeroD.map bcD ++ [.p (.v (.slice none 0 0)), .p (.v (.slice none 0 0)), .p (.v (.slice none 0 0))])
theorem zMC_len : zMC.length = 40 := rfl
theorem mL_len {m : Msg} (h : m.dig.length = 32) : (mL m).length = 40 := mlen (by rw [List.length_map]; exact h)
theorem lop_buildI1 {C : Ctx} {o : Oper} {σ : St} {T : TypeId} {x0 : Operand} {p0 : PVal} {fs : List (Nat × Nat)} {z : List Value} (ho : o.op = .build T #[(0, x0)]) (hF : TF C.P T fs) (hz : TZ C.P T z) (g0 : σ.look x0 = .p p0) (h1 : z.all (·.oneCell') = true)
    (hb : bfill (fun i => fs[i]?) (z.map fun v => .p (.v v)) [(0, [.p p0])] = some (.p p0 :: .p (.i 0) :: .p (.v (.string ByteArray.empty)) :: .p (.i 0) :: .p (.i 0) :: .p (.i 0) :: .p (.k .u64 0) :: zMC)) (hd : dOk C o.dst = true) :
    LOp C o σ ⟨.a (.p p0 :: .p (.i 0) :: .p (.v (.string ByteArray.empty)) :: .p (.i 0) :: .p (.i 0) :: .p (.i 0) :: .p (.k .u64 0) :: zMC), []⟩ (fun _ => false) := lop_build1 ho hF hz g0 h1 hb hd
theorem lop_buildI0 {C : Ctx} {o : Oper} {σ : St} {T : TypeId} {fs : List (Nat × Nat)} {z : List Value} (ho : o.op = .build T #[]) (hF : TF C.P T fs) (hz : TZ C.P T z) (h1 : z.all (·.oneCell') = true)
    (hb : bfill (fun i => fs[i]?) (z.map fun v => .p (.v v)) [] = some (.p (.i 0) :: .p (.i 0) :: .p (.v (.string ByteArray.empty)) :: .p (.i 0) :: .p (.i 0) :: .p (.i 0) :: .p (.k .u64 0) :: zMC)) (hd : dOk C o.dst = true) :
    LOp C o σ ⟨.a (.p (.i 0) :: .p (.i 0) :: .p (.v (.string ByteArray.empty)) :: .p (.i 0) :: .p (.i 0) :: .p (.i 0) :: .p (.k .u64 0) :: zMC), []⟩ (fun _ => false) := lop_build0 ho hF hz h1 hb hd
namespace I1
theorem lopC {C : Ctx} {o : Oper} {σ : St} {e : Eff} {ro : Nat → Bool} (h : LOp C o σ e ro := by
    first
      | (apply gLoad; (focus rfl); first | (apply lop_ldi7; (focus rfl); (focus exact inferInstance); (focus rfl); (focus rfl); (focus rfl); (focus rfl); (focus rfl); (focus exact il47 (by first | assumption | rfl | exact mlen (by first | assumption | (rw [List.length_map]; assumption) | rfl))); (focus exact ic7 (by first | assumption | rfl | exact mlen (by first | assumption | (rw [List.length_map]; assumption) | rfl))); (focus rfl)) | (apply lop_ldi3; (focus rfl); (focus exact inferInstance); (focus rfl); (focus rfl); (focus rfl); (focus rfl); (focus rfl); (focus exact il47 (by first | assumption | rfl | exact mlen (by first | assumption | (rw [List.length_map]; assumption) | rfl))); (focus rfl); (focus rfl)) | (apply lop_ldiA; (focus rfl); (focus exact inferInstance); (focus rfl); (focus rfl); (focus rfl); (focus rfl); (focus rfl); (focus exact il47 (by first | assumption | rfl | exact mlen (by first | assumption | (rw [List.length_map]; assumption) | rfl))); (focus rfl)))
      | (apply lop_buildI1; (focus rfl); (focus exact inferInstance); (focus exact inferInstance); (focus rfl); (focus decide); (focus rfl); (focus rfl))
      | (apply lop_buildI0; (focus rfl); (focus exact inferInstance); (focus exact inferInstance); (focus decide); (focus rfl); (focus rfl))
      | exact V1.lopC
      | fail) : LOp C o σ e ro := h
section steps
variable {C : Ctx} {ops : Array Oper} {o : Oper} {rest : List Oper} {K : St → Prop} {σ : St} {e : Eff} {ro : Nat → Bool} {W : List (Nat × Nat)} {i : Nat}
theorem rnC {d : Nat} (hk : RunN C ops rest K (e.app (some d) σ)) (hg : Guard ops σ o true := by first | exact gd_n rfl rfl | exact gd_t rfl rfl rfl rfl | exact gd_t rfl rfl rfl (by assumption)) (hd : o.dst = some d := by rfl) (h : LOp C o σ e ro := by exact lopC) : RunN C ops (o :: rest) K σ := rn_any hg hd h hk
theorem rkC {d : Nat} (hk : RunK C ops W (i + 1) rest K (e.app (some d) σ)) (hg : Guard ops σ o true := by first | exact gd_n rfl rfl | exact gd_t rfl rfl rfl rfl | exact gd_t rfl rfl rfl (by assumption)) (hd' : o.dst = some d := by rfl) (hd : dOk C o.dst = true := by rfl) (h : LOp C o σ e ro := by exact lopC)
    (hro : ∀ x, ro x = true → okObj ops W i x = true := by first | exact fun _ => ro_none | exact ro_one rfl | exact ro_k1 rfl | exact ro_one (by kernel_rfl) | exact ro_k1 (by kernel_rfl) | exact ro_kIn (by decide)) (hob : ∀ p ∈ e.obj, (i, p.1) ∈ W := by first | exact ob_none | exact ob_one (by decide) | decide) : RunK C ops W i (o :: rest) K σ := rk_wr hg hd' hd h hro hob hk
end steps
end I1
open I1
theorem op_eq (a b : Op3) : vEqB [.int .i64 a.1, .int .i64 a.2.1, .int .i64 a.2.2] [.int .i64 b.1, .int .i64 b.2.1, .int .i64 b.2.2] = decide (a = b) := by
  rw [vEq3]
  refine decide_eq_decide.2 ⟨fun h => Prod.ext h.1 (Prod.ext h.2.1 h.2.2), fun h => by rw [h]; exact ⟨rfl, rfl, rfl⟩⟩
theorem isame_g (x y : Inp) (M N : List AC) [pM : PureL M] [pN : PureL N] (hM : M.length = 40) (hN : N.length = 40) (S : Bool) (kx : okB x.key) (ky : okB y.key) (c : PCall Tryz.prog 31 [.a M, .a N] (.p (.b S))) : PCall Tryz.prog 56 [.a (iC x M), .a (iC y N)] (.p (.b (decide (x.kind = y.kind) && (decide (x.id = y.id) && (decide (x.key = y.key) && (decide (x.op = y.op) && (decide (x.draw = y.draw) && S))))))) := by
  refine pcall_of Tryz.func56 rfl (fun w0 F S0 M0 => ?_)
  haveI i1 : PC Tryz.prog 31 [.a M, .a N] True (.p (.b S)) := ⟨fun _ => c⟩
  have e4 := op_eq x.op y.op
  have e5 : decide ((x.draw : Int) = (y.draw : Int)) = decide (x.draw = y.draw) := decide_eq_decide.2 (by omega)
  cases d1 : decide (x.kind = y.kind) with
  | false =>
    rw [Bool.false_and]
    as_aux_lemma =>
      repeat' (first | refine rnC ?_ | refine rnSB ?_ | refine rnG ?_ | refine rnU ?_ | ((fail_if_success (refine rnKn ?_)); refine rnP ?_ ?_ <;> (intro hq; try (have hq' := hq; simp only [hqs] at hq'))) | refine rkC ?_ | refine rkSB ?_ | refine rkF ?_ | refine rkU ?_ | ((fail_if_success (refine rkKn ?_)); refine rkP ?_ ?_ <;> (intro hq; try (have hq' := hq; simp only [hqs] at hq'))) | refine stp ?_ | refine ifT ?_ | refine ifF ?_ | (refine ifQ ?_ ?_ <;> (try (intro hn))) | (refine ifB ?_ ?_ <;> (intro hq; try (have hq' := hq; simp only [hqs] at hq'))))
      exact rt1 rfl rfl finS_p rfl
  | true =>
    rw [Bool.true_and]
    cases d2 : decide (x.id = y.id) with
    | false =>
      rw [Bool.false_and]
      as_aux_lemma =>
        repeat' (first | refine rnC ?_ | refine rnSB ?_ | refine rnG ?_ | refine rnU ?_ | ((fail_if_success (refine rnKn ?_)); refine rnP ?_ ?_ <;> (intro hq; try (have hq' := hq; simp only [hqs] at hq'))) | refine rkC ?_ | refine rkSB ?_ | refine rkF ?_ | refine rkU ?_ | ((fail_if_success (refine rkKn ?_)); refine rkP ?_ ?_ <;> (intro hq; try (have hq' := hq; simp only [hqs] at hq'))) | refine stp ?_ | refine ifT ?_ | refine ifF ?_ | (refine ifQ ?_ ?_ <;> (try (intro hn))) | (refine ifB ?_ ?_ <;> (intro hq; try (have hq' := hq; simp only [hqs] at hq'))))
        exact rt1 rfl rfl finS_p rfl
    | true =>
      rw [Bool.true_and]
      cases d3 : decide (x.key = y.key) with
      | false =>
        rw [Bool.false_and]
        as_aux_lemma =>
          repeat' (first | refine rnC ?_ | refine rnSB ?_ | refine rnG ?_ | refine rnU ?_ | ((fail_if_success (refine rnKn ?_)); refine rnP ?_ ?_ <;> (intro hq; try (have hq' := hq; simp only [hqs] at hq'))) | refine rkC ?_ | refine rkSB ?_ | refine rkF ?_ | refine rkU ?_ | ((fail_if_success (refine rkKn ?_)); refine rkP ?_ ?_ <;> (intro hq; try (have hq' := hq; simp only [hqs] at hq'))) | refine stp ?_ | refine ifT ?_ | refine ifF ?_ | (refine ifQ ?_ ?_ <;> (try (intro hn))) | (refine ifB ?_ ?_ <;> (intro hq; try (have hq' := hq; simp only [hqs] at hq'))))
          exact rt1 rfl rfl finS_p rfl
      | true =>
        rw [Bool.true_and]
        cases d4 : decide (x.op = y.op) with
        | false =>
          rw [Bool.false_and]
          rw [d4] at e4
          as_aux_lemma =>
            repeat' (first | refine rnC ?_ | refine rnSB ?_ | refine rnG ?_ | refine rnU ?_ | ((fail_if_success (refine rnKn ?_)); refine rnP ?_ ?_ <;> (intro hq; try (have hq' := hq; simp only [hqs] at hq'))) | refine rkC ?_ | refine rkSB ?_ | refine rkF ?_ | refine rkU ?_ | ((fail_if_success (refine rkKn ?_)); refine rkP ?_ ?_ <;> (intro hq; try (have hq' := hq; simp only [hqs] at hq'))) | refine stp ?_ | refine ifT ?_ | refine ifF ?_ | (refine ifQ ?_ ?_ <;> (try (intro hn))) | (refine ifB ?_ ?_ <;> (intro hq; try (have hq' := hq; simp only [hqs] at hq'))))
            exact rt1 rfl rfl finS_p rfl
        | true =>
          rw [Bool.true_and]
          rw [d4] at e4
          cases d5 : decide (x.draw = y.draw) with
          | false =>
            rw [Bool.false_and]
            rw [d5] at e5
            as_aux_lemma =>
              repeat' (first | refine rnC ?_ | refine rnSB ?_ | refine rnG ?_ | refine rnU ?_ | ((fail_if_success (refine rnKn ?_)); refine rnP ?_ ?_ <;> (intro hq; try (have hq' := hq; simp only [hqs] at hq'))) | refine rkC ?_ | refine rkSB ?_ | refine rkF ?_ | refine rkU ?_ | ((fail_if_success (refine rkKn ?_)); refine rkP ?_ ?_ <;> (intro hq; try (have hq' := hq; simp only [hqs] at hq'))) | refine stp ?_ | refine ifT ?_ | refine ifF ?_ | (refine ifQ ?_ ?_ <;> (try (intro hn))) | (refine ifB ?_ ?_ <;> (intro hq; try (have hq' := hq; simp only [hqs] at hq'))))
              exact rt1 rfl rfl finS_p rfl
          | true =>
            rw [Bool.true_and]
            rw [d5] at e5
            as_aux_lemma =>
              repeat' (first | refine rnC ?_ | refine rnSB ?_ | refine rnG ?_ | refine rnU ?_ | ((fail_if_success (refine rnKn ?_)); refine rnP ?_ ?_ <;> (intro hq; try (have hq' := hq; simp only [hqs] at hq'))) | refine rkC ?_ | refine rkSB ?_ | refine rkF ?_ | refine rkU ?_ | ((fail_if_success (refine rkKn ?_)); refine rkP ?_ ?_ <;> (intro hq; try (have hq' := hq; simp only [hqs] at hq'))) | refine stp ?_ | refine ifT ?_ | refine ifF ?_ | (refine ifQ ?_ ?_ <;> (try (intro hn))) | (refine ifB ?_ ?_ <;> (intro hq; try (have hq' := hq; simp only [hqs] at hq'))))
              exact rt1 rfl rfl finS_p rfl
theorem isame_w (x y : Inp) (hx : MIn x.msg) (hy : MIn y.msg) (kx : okB x.key) (ky : okB y.key) : PCall Tryz.prog 56 [iV x, iV y] (.p (.b (sameI x y))) :=
  isame_g x y _ _ (mL_len hx.d32) (mL_len hy.d32) _ kx ky (psame_w x.msg y.msg hx hy)
theorem client_g (x : Inp) (M : List AC) [pM : PureL M] (hM : M.length = 40) (kx : okB x.key) (kl : x.key.length ≤ 1000000) : PCall Tryz.prog 144 [.a (iC x M)] (.p (.b (cliF x.id x.key))) := by
  refine pcall_of Tryz.func144 rfl (fun w0 F S0 M0 => ?_)
  have c1 := keyRight_w x.key kx kl
  unfold cliF
  generalize keyR x.key = R at c1 ⊢
  haveI i3 : PC Tryz.prog 109 [.p (.v (.string (strOf x.key)))] True (.p (.b R)) := ⟨fun _ => c1⟩
  cases d1 : decide (1 ≤ x.id) with
  | false =>
    rw [Bool.false_and]
    as_aux_lemma =>
      repeat' (first | refine rnC ?_ | refine rnSB ?_ | refine rnG ?_ | refine rnU ?_ | ((fail_if_success (refine rnKn ?_)); refine rnP ?_ ?_ <;> (intro hq; try (have hq' := hq; simp only [hqs] at hq'))) | refine rkC ?_ | refine rkSB ?_ | refine rkF ?_ | refine rkU ?_ | ((fail_if_success (refine rkKn ?_)); refine rkP ?_ ?_ <;> (intro hq; try (have hq' := hq; simp only [hqs] at hq'))) | refine stp ?_ | refine ifT ?_ | refine ifF ?_ | (refine ifQ ?_ ?_ <;> (try (intro hn))) | (refine ifB ?_ ?_ <;> (intro hq; try (have hq' := hq; simp only [hqs] at hq'))))
      exact rt1 rfl rfl finS_p rfl
  | true =>
    rw [Bool.true_and]
    cases d2 : decide (x.id ≤ 1099511627776) with
    | false =>
      rw [Bool.false_and]
      as_aux_lemma =>
        repeat' (first | refine rnC ?_ | refine rnSB ?_ | refine rnG ?_ | refine rnU ?_ | ((fail_if_success (refine rnKn ?_)); refine rnP ?_ ?_ <;> (intro hq; try (have hq' := hq; simp only [hqs] at hq'))) | refine rkC ?_ | refine rkSB ?_ | refine rkF ?_ | refine rkU ?_ | ((fail_if_success (refine rkKn ?_)); refine rkP ?_ ?_ <;> (intro hq; try (have hq' := hq; simp only [hqs] at hq'))) | refine stp ?_ | refine ifT ?_ | refine ifF ?_ | (refine ifQ ?_ ?_ <;> (try (intro hn))) | (refine ifB ?_ ?_ <;> (intro hq; try (have hq' := hq; simp only [hqs] at hq'))))
        exact rt1 rfl rfl finS_p rfl
    | true =>
      rw [Bool.true_and]
      as_aux_lemma =>
        repeat' (first | refine rnC ?_ | refine rnSB ?_ | refine rnG ?_ | refine rnU ?_ | ((fail_if_success (refine rnKn ?_)); refine rnP ?_ ?_ <;> (intro hq; try (have hq' := hq; simp only [hqs] at hq'))) | refine rkC ?_ | refine rkSB ?_ | refine rkF ?_ | refine rkU ?_ | ((fail_if_success (refine rkKn ?_)); refine rkP ?_ ?_ <;> (intro hq; try (have hq' := hq; simp only [hqs] at hq'))) | refine stp ?_ | refine ifT ?_ | refine ifF ?_ | (refine ifQ ?_ ?_ <;> (try (intro hn))) | (refine ifB ?_ ?_ <;> (intro hq; try (have hq' := hq; simp only [hqs] at hq'))))
        exact rt1 rfl rfl finS_p rfl
end Go.Proofs.YtclcfjejpogdlaaGreat.Wi
