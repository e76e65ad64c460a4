/- THE ABSTRACT WALK, part 27: functions' values that are called by name; captured arrays; a slice of one array written out. Nothing here speaks of a program.; THE ABSTRACT WALK, part 28: a function's value of whose captured variables one is an own object, and turns; a range over it. Nothing here speaks of a program. -/
import Derived.Test.YtclcfjejpogdlaaGreatCS06
namespace Go.Aw
open Go Go.RowKit
set_option linter.unusedVariables false
set_option linter.unusedSimpArgs false
section ops
variable {C : Ctx} {o : Oper} {σ : St} {α : Type}
/-- a function's value is called: what it captured stands behind the arguments -/
theorem lop_callv {f : FuncId} {x : Operand} {as : Array Operand} {ts : Array TypeId} {caps : List PVal} {args : List AV} {r : AV} (ho : o.op = .call ⟨.value x, as, ts⟩) (hfn : FnT C.P f) (hx : σ.look x = .p (.fnv f caps)) (ha : All2 (fun x a => σ.look x = a) as.toList args) (hp : PureAVs args)
    (hc : PCall C.P f (args ++ caps.map .p) r) (hd : dOk C o.dst = true) : LOp C o σ ⟨r, []⟩ (fun _ => false) := by
  refine ⟨fun x m h => by simp at h, fun τ hl hm a w ⟨G, h⟩ K Q hK => ?_⟩
  obtain ⟨vs, hev, hcaps⟩ := look_of h ((hl x (by rw [ho]; simp [Op.operands, Call.operands])).trans hx)
  have hv : All2 (AV.holds Mu.none ⟨w, G.S⟩) (args ++ caps.map .p) (as.toList.map a.eval ++ vs) := by
    refine All2.append ⟨by simp [← ha.1], fun i av v hav hvv => ?_⟩ ⟨by simpa using hcaps.1, fun i av v hav hvv => ?_⟩
    · rw [List.getElem?_map] at hvv
      cases hx' : as.toList[i]? with
      | none => rw [hx'] at hvv; cases hvv
      | some y =>
        rw [hx'] at hvv; simp at hvv; subst hvv
        have h1 := ha.2 i y av hx' hav
        have h2 := h.look y
        rw [hl y (by rw [ho]; simp [Op.operands, Call.operands]; right; simpa using List.mem_of_getElem? hx'), h1] at h2
        exact hp.pure.2 i av av hav hav _ _ _ h2
    · rw [List.getElem?_map] at hav
      cases hq : caps[i]? with
      | none => rw [hq] at hav; cases hav
      | some q => rw [hq] at hav; simp at hav; subst hav; exact hcaps.2 i q v hq hvv
  obtain ⟨fn, h1, h2, h3⟩ := hfn.fn
  have hname : ¬ fn.name = "runtime.NumGoroutine" := by simpa using h2
  have hrun : (execOp a.eval o).run C.P w = .ok (.enter f (as.map a.eval ++ vs.toArray)) w := by
    cases hbody : fn.body with
    | none => simp [hbody] at h3
    | some c => simp [execOp, ho, resolve, hev, Deferred.ofValue, invoke, callFunc, program, Sem.run, Sem.run_bind, h1, hbody, pure, hname]
  refine wpIn_exec (by rw [ho]; intro c h; cases h) ?_
  rw [hrun, Oper.uponIn_enter]
  have h9 := calls_frame h hc hv (d := o.dst) hd (K := K) (Q := Q) hK
  have e : (as.toList.map a.eval ++ vs).toArray = as.map a.eval ++ vs.toArray := by apply Array.toList_inj.1; simp
  rw [e] at h9
  exact ⟨by simp [fz, Fence.wide], (callsIn_wide (n := 0)).2 h9⟩
theorem lop_callv1 {f : FuncId} {x x0 : Operand} {ts : Array TypeId} {caps : List PVal} {a0 r : AV} {pre : Prop} (ho : o.op = .call ⟨.value x, #[x0], ts⟩) (hx : σ.look x = .p (.fnv f caps)) (hfn : FnT C.P f) (h0 : σ.look x0 = a0) (hp : PureAVs [a0]) (hc : PC C.P f ([a0] ++ caps.map .p) pre r) (hpre : pre) (hd : dOk C o.dst = true) : LOp C o σ ⟨r, []⟩ (fun _ => false) :=
  lop_callv ho hfn hx (.cons h0 .nil) hp (hc.call hpre) hd
/-- four captured variables -/
theorem lop_mf4 {f : FuncId} {x0 x1 x2 x3 : Operand} {o0 g0 n0 ty0 o1 g1 n1 ty1 o2 g2 n2 ty2 o3 g3 n3 ty3 : Nat} {cs0 cs1 cs2 cs3 : List AC} {ps0 ps1 ps2 ps3 : List PVal} (ho : o.op = .makeFunc (.func f) #[] #[x0, x1, x2, x3])
    (h0 : σ.look x0 = .o (.ptr o0 g0 0)) (hm0 : σ.mem o0 = (n0, some (.box ty0 cs0))) (hn0 : n0 = g0 + 1) (hc0 : cs0 = ps0.map .p)
    (h1 : σ.look x1 = .o (.ptr o1 g1 0)) (hm1 : σ.mem o1 = (n1, some (.box ty1 cs1))) (hn1 : n1 = g1 + 1) (hc1 : cs1 = ps1.map .p)
    (h2 : σ.look x2 = .o (.ptr o2 g2 0)) (hm2 : σ.mem o2 = (n2, some (.box ty2 cs2))) (hn2 : n2 = g2 + 1) (hc2 : cs2 = ps2.map .p)
    (h3 : σ.look x3 = .o (.ptr o3 g3 0)) (hm3 : σ.mem o3 = (n3, some (.box ty3 cs3))) (hn3 : n3 = g3 + 1) (hc3 : cs3 = ps3.map .p)
    (hne : ([o0, o1, o2, o3] : List Nat).Nodup) (hd : dOk C o.dst = true) :
    LOp C o σ ⟨.p (.fnv f [.bx ps0 0, .bx ps1 0, .bx ps2 0, .bx ps3 0]), [(o0, (g0 + 1, some (.abs (fbx ps0)))), (o1, (g1 + 1, some (.abs (fbx ps1)))), (o2, (g2 + 1, some (.abs (fbx ps2)))), (o3, (g3 + 1, some (.abs (fbx ps3))))]⟩ (fun x => [o0, o1, o2, o3].any (· == x)) := by
  subst hn0 hc0 hn1 hc1 hn2 hc2 hn3 hc3
  have := lop_mf (C := C) (o := o) (σ := σ) (l := [⟨o0, g0, ty0, ps0⟩, ⟨o1, g1, ty1, ps1⟩, ⟨o2, g2, ty2, ps2⟩, ⟨o3, g3, ty3, ps3⟩]) ho (.cons h0 (.cons h1 (.cons h2 (.cons h3 .nil))))
    (by intro q hq; simp at hq; rcases hq with rfl | rfl | rfl | rfl; exact hm0; exact hm1; exact hm2; exact hm3) hne hd
  simpa [Cap.upd] using this
/-- a place of a captured array -/
theorem lop_ix_bx {T e : TypeId} {x ix : Operand} {n sz by_ : Nat} {ke : TK} {sze be : Nat} {ps : List PVal} {off : Nat} {k : IntKind} {i : Int}
    (ho : o.op = .indexAddr T x ix) (hT : TI C.P T (.array n e) sz by_) (he : TI C.P e ke sze be) (hx : σ.look x = .p (.bx ps off)) (hi : σ.look ix = .p (.v (.int k i))) (h0 : 0 ≤ i) (hb : i < n) (hd : dOk C o.dst = true) : LOp C o σ ⟨.p (.bx ps (off + i.toNat * sze)), []⟩ (fun _ => false) :=
  lop_val hd fun τ a w G hl hm h => by
    obtain ⟨b, cs, ty, h1, h2, h3, h4⟩ := look_of h ((hl x (by simp [ho, Op.operands])).trans hx)
    have e2 := val_of h ((hl ix (by simp [ho, Op.operands])).trans hi)
    obtain ⟨d, hdd, hk⟩ := hT.undd
    have : d = .array n e := by cases d <;> simp [TK.of] at hk; rw [hk.1, hk.2]
    subst this
    refine ⟨.pointer (some ⟨b, off + i.toNat * sze, none⟩), ?_, b, cs, ty, rfl, h2, h3, h4⟩
    have hb' : 0 ≤ i ∧ i < (n : Int) := ⟨h0, hb⟩
    simp [execOp, ho, h1, e2, Instr.indexAt, asIntOf, run_underlying hdd, Instr.sureAddr, hb', he.run_sizeOf, add_addr]
/-- a row of a captured array -/
theorem lop_ld_bxr {f : α → PVal} {l : List α} {T : TypeId} {x : Operand} {k : TK} {sz by_ i : Nat} (ho : o.op = .load T x) (hT : TI C.P T k sz by_) (hx : σ.look x = .p (.bx (l.map f) (0 + i * sz))) (hk : k.agg = true) (hl : i * sz + sz ≤ l.length) (hd : dOk C o.dst = true) :
    LOp C o σ ⟨.a ((rowOf sz l i).map fun a => .p (f a)), []⟩ (fun _ => false) :=
  lop_val hd fun τ a w G hl' hm h => by
    rw [Nat.zero_add] at hx
    obtain ⟨b, cs, ty, h1, h2, h3, h4⟩ := look_of h ((hl' x (by simp [ho, Op.operands])).trans hx)
    have hcl : cs.length = l.length := by have := h4.1; simpa using this.symm
    have hr := run_loadVar (P := C.P) hT (w := w) (b := b) (off := i * sz) (arr := cs) (ty := ty) (fr := (0, 0)) h3 (by omega) (by simp [hk])
    simp only [hk, if_true] at hr
    refine ⟨.agg ((cs.drop (i * sz)).take sz).toArray, by simp [execOp, ho, h1, Instr.loadAt, Instr.sureAddr, hr], _, rfl, ?_⟩
    have h5 := (h4.drop (i * sz)).take sz
    refine ⟨by simp [rowOf]; omega, fun j c v hc hv => ?_⟩
    rw [List.getElem?_map] at hc
    cases hq : (rowOf sz l i)[j]? with
    | none => rw [hq] at hc; cases hc
    | some q =>
      rw [hq] at hc; simp at hc; subst hc
      refine h5.2 j (f q) v ?_ hv
      rw [← List.map_drop, ← List.map_take, List.getElem?_map]
      have : (List.take sz (List.drop (i * sz) l))[j]? = some q := hq
      rw [this]; rfl
/-- a whole captured array -/
theorem lop_ld_bxw {f : α → PVal} {l : List α} {T : TypeId} {x : Operand} {k : TK} {sz by_ : Nat} (ho : o.op = .load T x) (hT : TI C.P T k sz by_) (hx : σ.look x = .p (.bx (l.map f) 0)) (hk : k.agg = true) (hl : l.length = sz) (hd : dOk C o.dst = true) :
    LOp C o σ ⟨.a (l.map fun a => .p (f a)), []⟩ (fun _ => false) := by
  have := lop_ld_bxr (i := 0) (l := l) (f := f) ho hT (by simpa using hx) hk (by omega) hd
  rwa [show rowOf sz l 0 = l from by simp [rowOf, ← hl]] at this
/-- a slice of one array, written out -/
theorem lop_bsr1 {q : α → PVal} {l : List α} {T e : TypeId} {x0 : Operand} {sz by_ es be : Nat} {ke : TK} {z : List Value} (ho : o.op = .buildSlice T 1 #[(0, x0)]) (hT : TI C.P T (.slice e) sz by_) (he : TI C.P e ke es be) (hz : TZ C.P e z) (h0 : σ.look x0 = .a (l.map fun a => .p (q a))) (hl : l.length = es) (hes : 0 < es) (hsm : es ≤ 2 ^ 24) (hd : dOk C o.dst = true) :
    LOp C o σ ⟨.p (.sl es [l.map q] true), []⟩ (fun _ => false) :=
  lop_buildSlice (ps := [(0, l.map q)]) ho (.cons ⟨rfl, by simp [hl], _, h0, by simp [SV.cells, List.map_map, Function.comp_def]⟩ .nil) rfl hes (by omega) hd
end ops
theorem lopZ {C : Ctx} {o : Oper} {σ : St} {e : Eff} {ro : Nat → Bool} (h : LOp C o σ e ro := by
    first | (apply lop_bsr1; (focus rfl); (focus exact inferInstance); (focus exact inferInstance); (focus exact inferInstance); (focus rfl); (focus first | assumption | omega | (exact rowOf_len (by omega)) | (simp only [List.length_map]; omega) | (simp [*]; done)); (focus decide); (focus decide); (focus rfl)) | (apply lop_ix_bx; (focus rfl); (focus exact inferInstance); (focus exact inferInstance); (focus rfl); (focus rfl); (focus omega); (focus omega); (focus rfl)) | (apply lop_ld_bxr; (focus rfl); (focus exact inferInstance); (focus rfl); (focus rfl); (focus first | assumption | omega | (exact rowOf_len (by omega)) | (simp only [List.length_map]; omega) | (simp [*]; done)); (focus rfl)) | (apply lop_ld_bxw; (focus rfl); (focus exact inferInstance); (focus rfl); (focus rfl); (focus first | assumption | omega | (exact rowOf_len (by omega)) | (simp only [List.length_map]; omega) | (simp [*]; done)); (focus rfl)) | (apply lop_ld_bx1; (focus rfl); (focus exact inferInstance); (focus rfl); (focus exact inferInstance); (focus rfl); (focus rfl); (focus first | assumption | omega | (exact rowOf_len (by omega)) | (simp only [List.length_map]; omega) | (simp [*]; done)); (focus rfl); (focus rfl)) | exact lopB | fail) : LOp C o σ e ro := h
section steps
variable {C : Ctx} {ops : Array Oper} {o : Oper} {rest : List Oper} {K : St → Prop} {σ : St} {e : Eff} {ro : Nat → Bool} {W : List (Nat × Nat)} {i : Nat}
theorem rnZ {d : Nat} (hk : RunN C ops rest K (e.app (some d) σ)) (hg : Guard ops σ o true := by first | exact gd_n rfl rfl | exact gd_t rfl rfl rfl rfl | exact gd_t rfl rfl rfl (by assumption)) (hd : o.dst = some d := by rfl) (h : LOp C o σ e ro := by exact lopZ) : RunN C ops (o :: rest) K σ := rn_any hg hd h hk
theorem rkZ {d : Nat} (hk : RunK C ops W (i + 1) rest K (e.app (some d) σ)) (hg : Guard ops σ o true := by first | exact gd_n rfl rfl | exact gd_t rfl rfl rfl rfl | exact gd_t rfl rfl rfl (by assumption)) (hd' : o.dst = some d := by rfl) (hd : dOk C o.dst = true := by rfl) (h : LOp C o σ e ro := by exact lopZ)
    (hro : ∀ x, ro x = true → okObj ops W i x = true := by first | exact fun _ => ro_none | exact ro_one rfl | exact ro_one (by kernel_rfl) | exact ro_kIn (by decide)) (hob : ∀ p ∈ e.obj, (i, p.1) ∈ W := by first | exact ob_none | exact ob_one (by decide) | decide) : RunK C ops W i (o :: rest) K σ := rk_wr hg hd' hd h hro hob hk
end steps
theorem rt3 {P : Program} {fn : Func} {r : AV} {σ : St} {t0 t1 t2 : Nat} {s0 s1 s2 u0 u1 u2 : SV} (hf : fn.results.toList = [.tmp t0, .tmp t1, .tmp t2]) (h0 : σ.env t0 = .s s0) (f0 : FinS σ kNone s0 u0) (h1 : σ.env t1 = .s s1) (f1 : FinS σ kNone s1 u1) (h2 : σ.env t2 = .s s2) (f2 : FinS σ kNone s2 u2) (hr : r = .tup [u0, u1, u2]) : Ret P fn r .ret σ :=
  Ret.of ⟨[u0, u1, u2], hr, by rw [hf]; exact .cons (.tmp h0 f0) (.cons (.tmp h1 f1) (.cons (.tmp h2 f2) .nil))⟩
/-- a scope whose label stands behind statements -/
theorem aws_scopeM {ι : Type} {C : Ctx} {Q : Exit → St → Prop} {σ : St} {c y : Code} {k : List Code} (l : Nat) (W M : List Nat) (e : ι → List (Nat × AV)) (m : ι → List (Nat × (Nat × Option MO))) (P : ι → Prop) (μ : ι → Nat) (hf : findLabel c l = some (.seq .skip y))
    (pass : ∀ i β γ, P i → AWs C [y] (fun x s' => match x with | .goto l' => l' = l ∧ ∃ j τ, μ j < μ i ∧ P j ∧ Says C s' τ ∧ Fr' σ W (e j) M (m j) τ | .normal => AWs C k Q s' | x => Q x s') (σ.fr W β (e i) M γ (m i)))
    (first : (∀ i s, P i → Fr' σ W (e i) M (m i) s → AWs C [y] (fun x s' => match x with | .goto l' => l' = l ∧ ∃ j τ, P j ∧ Says C s' τ ∧ Fr' σ W (e j) M (m j) τ | .normal => AWs C k Q s' | x => Q x s') s) →
      AWs C [c] (fun x s' => match x with | .goto l' => l' = l ∧ ∃ j τ, P j ∧ Says C s' τ ∧ Fr' σ W (e j) M (m j) τ | .normal => AWs C k Q s' | x => Q x s') σ) : AWs C (.scope c :: k) Q σ := aws_scopeS l σ W M e m P μ hf pass first
end Go.Aw
namespace Go.Aw
open Go Go.RowKit
set_option linter.unusedVariables false
set_option linter.unusedSimpArgs false
/-- of an object's blocks nothing more is said -/
theorem RelG.drop {C : Ctx} {σ : St} {a : Act} {w : World} {G : Gh} (h : RelG C σ a w G) {o n : Nat} {mo : Option MO} (hm : σ.mem o = (n, mo)) :
    RelG C (σ.put o (n, none)) a w ⟨G.μ, G.S, fun x => if x = o then [] else G.φ x⟩ where
  size := h.size
  defers := fun d hd => by
    obtain ⟨b, rfl, h1, h2, h3, h4, h5⟩ := h.defers d hd
    refine ⟨b, rfl, h1, h2, h3, h4, fun x hx => ?_⟩
    by_cases e : x = o <;> simp only [e, if_true, if_false] at hx
    · cases hx
    · exact h5 x hx
  dnod := h.dnod
  mle := h.mle
  env := h.env
  gens := fun x => by
    by_cases e : x = o
    · subst e; have := h.gens x; rw [hm] at this; simpa [St.put] using this
    · simpa [St.put, e] using h.gens x
  mem := fun x n' mo' hx => by
    by_cases e : x = o
    · subst e; simp [St.put] at hx
    · simp only [St.put, e, if_false] at hx
      obtain ⟨g, m, k1, k2, k3⟩ := h.mem x n' mo' hx
      exact ⟨g, m, k1, k2, by simpa [e] using k3⟩
  apart := fun x y b hne h1 h2 => by
    by_cases e1 : x = o <;> by_cases e2 : y = o <;> simp [e1, e2] at h1 h2
    exact h.apart x y b hne h1 h2
  stab := fun x b hb => by
    by_cases e : x = o <;> simp [e] at hb
    exact h.stab x b hb
  own := fun x b hb => by
    by_cases e : x = o <;> simp [e] at hb
    exact h.own x b hb
  sbd := h.sbd
  ssub := h.ssub
  fr := h.fr
section funcs
variable {C : Ctx} {o : Oper} {σ : St}
end funcs
end Go.Aw
