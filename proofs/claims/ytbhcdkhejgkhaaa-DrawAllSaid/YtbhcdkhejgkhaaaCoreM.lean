/- THE ABSTRACT WALK, part 13: slices whose rows are a list's, mapped. -/
import Derived.Test.YtbhcdkhejgkhaaaCoreL
import Derived.Lib.SliceRun
namespace Go.Aw
open Go Go.RowKit
set_option linter.unusedVariables false
set_option linter.unusedSimpArgs false

/-- the same, written otherwise -/
theorem says_is {C : Ctx} {σ : St} {t : Nat} {v v' : AV} (hv : σ.env t = v) (he : v = v') : Says C σ (σ.set (some t) v') := by
  rintro a w ⟨G, h⟩
  have h1 := h.env t
  rw [hv, he] at h1
  exact ⟨_, h.alias h1⟩

theorem finC_map {σ : St} {K : Nat → Bool} {o g es len n ty : Nat} {α : Type} {l : List α} {f : α → List PVal} (hK : K o = false) (hm : σ.mem o = (n, some (.buf ty es (l.map f)))) (hn : n = g + 1) (hl : len = l.length) : FinC σ K (.osl o g es 0 len) (.p (.sl es (l.map f) false)) := by
  subst hn hl
  have := FinC.osl (lo := 0) (len := l.length) hK hm (by simp)
  rw [List.drop_zero, List.take_of_length_le (by simp)] at this
  exact this
theorem rs {α : Type} {l m : List α} {f : α → List PVal} {es : Nat} {ex : Bool} (h : l = m) : AV.p (.sl es (l.map f) ex) = .s (.one (.p (.sl es (m.map f) ex))) := by rw [h]

/-- a contract with one object that is lent -/
theorem ocall_of1 {P : Program} {f : FuncId} {fn : Func} {body : Code} {args : List AV} {r : AV} {m0 m1 : Nat × Option MO} (hf : P.funcs[f]? = some fn) (hb : fn.body = some body)
    (h : ∀ w0 F S0 M0, AWs ⟨P, w0, F, S0, max args.length fn.ntmps, none, M0⟩ [body] (RetO P fn r (kIn [(1000, m1)]) (memL [(1000, m1)])) ⟨fun t => args.getD t .un, memL [(1000, m0)]⟩) : OCall P f args (memL [(1000, m0)]) r (memL [(1000, m1)]) := by
  refine ocall_of (kIn [(1000, m1)]) hf hb (fun o ho => ?_) h
  simp only [kIn, Bool.or_false] at ho
  have hk : o ≠ 1000 := fun e => by rw [e] at ho; simp at ho
  simp [memL, hk]
/-- a contract with one object that is made -/
theorem ocall_ofF (q : Nat) {P : Program} {f : FuncId} {fn : Func} {body : Code} {args : List AV} {r : AV} {m1 : Nat × Option MO} (hf : P.funcs[f]? = some fn) (hb : fn.body = some body)
    (h : ∀ w0 F S0 M0, AWs ⟨P, w0, F, S0, max args.length fn.ntmps, none, M0⟩ [body] (RetO P fn r (kIn [(q, m1)]) (memL [(q, m1)])) ⟨fun t => args.getD t .un, fun _ => (0, none)⟩) : OCall P f args (fun _ => (0, none)) r (memL [(q, m1)]) :=
  ocall_of (kIn [(q, m1)]) hf hb (fun o ho => rfl) h
theorem finM_box {σ : St} {K : Nat → Bool} {o n ty : Nat} {cs ds : List AC} (hm : σ.mem o = (n, some (.box ty cs))) (h : All2 (FinC σ K) cs ds) : FinM σ K (σ.mem o) (n, some (.box ty ds)) := by rw [hm]; exact .box h

/-- a truth of which just this is known: when it is true, q -/
def PVal.qb (q : Prop) : PVal := ⟨fun _ v => ∃ b, v = .bool b ∧ (b = true → q), fun _ h => h, fun h => by obtain ⟨b, rfl, _⟩ := h; rfl⟩
theorem aws_if_qb {C : Ctx} {σ : St} {cd : Operand} {x y : Code} {k : List Code} {Q : Exit → St → Prop} {q : Prop} (hv : σ.look cd = .p (.qb q)) (h1 : q → AWs C (x :: k) Q σ) (h2 : True → AWs C (y :: k) Q σ) : AWs C (.cond cd x y :: k) Q σ := by
  intro a w hr
  obtain ⟨G, hG⟩ := hr
  obtain ⟨b, hb, hq⟩ := look_of hG hv
  refine wpIn_cond_split hb (fun h => ?_) (fun h => ?_)
  · exact h1 (hq h) a w ⟨G, hG⟩
  · exact h2 trivial a w ⟨G, hG⟩
theorem lop_sl_eqnil {C : Ctx} {o : Oper} {σ : St} {t e t' : TypeId} {x y : Operand} {sz by_ es : Nat} {rows : List (List PVal)} {ex : Bool} (ho : o.op = .binOp .eql t x y t') (hT : TI C.P t (.slice e) sz by_) (hx : σ.look x = .p (.sl es rows ex)) (hy : σ.look y = .p (.v (.slice none 0 0))) (hd : dOk C o.dst = true) :
    LOp C o σ ⟨.p (.qb (rows = [])), []⟩ (fun _ => false) :=
  lop_val hd fun τ a w G hl hm h => by
    obtain ⟨bs, cap, p1, p2, p3, p4, p5⟩ := look_of h ((hl x (by simp [ho, Op.operands])).trans hx)
    have e2 := val_of h ((hl y (by simp [ho, Op.operands])).trans hy)
    obtain ⟨d, hdd, hk⟩ := hT.undd
    have : d = .slice e := by cases d <;> simp [TK.of] at hk; rw [hk]
    subst this
    refine ⟨.bool bs.isNone, ?_, bs.isNone, rfl, fun hb => ?_⟩
    · have hg : (eqGuard .eql t x y (.slice bs rows.length cap) (.slice none 0 0)).run C.P w = .ok () w := by
        unfold eqGuard; simp [pure]
      have hr : (binOp .eql t (.slice bs rows.length cap) (.slice none 0 0)).run C.P w = .ok (.bool bs.isNone) w := by
        exact Go.Lib.run_eql_slice_nil w t e bs rows.length cap 0 0 hdd
      simp only [execOp, ho, p1, e2, Sem.run_bind, hg, Result.andThen_ok, hr, Sem.run_pure]
    · cases bs with
      | none => exact p5.1
      | some b => simp at hb

section ops
variable {C : Ctx} {o : Oper} {σ : St} {T e : TypeId} {sz by_ es be : Nat} {ke : TK} {α : Type} {f : α → List PVal} {l m : List α} {ex : Bool} {x y xl xh xm : Operand} {kl kh km : IntKind} {lo hi mx : Int}

theorem lop_sl_l (ho : o.op = .slice T x (some xl) none none) (hT : TI C.P T (.slice e) sz by_) (he : TI C.P e ke es be) (hx : σ.look x = .p (.sl es (l.map f) ex)) (hlo : σ.look xl = .p (.v (.int kl lo))) (h0 : 0 ≤ lo) (h1 : lo ≤ l.length) (hd : dOk C o.dst = true) :
    LOp C o σ ⟨.p (.sl es ((l.drop lo.toNat).map f) ex), []⟩ (fun _ => false) := by
  have := lop_slice_l (o := o) ho hx hlo h0 (by simpa using h1) hd
  rwa [← List.map_drop] at this
theorem lop_sl_h (ho : o.op = .slice T x none (some xh) none) (hT : TI C.P T (.slice e) sz by_) (he : TI C.P e ke es be) (hx : σ.look x = .p (.sl es (l.map f) ex)) (hhi : σ.look xh = .p (.v (.int kh hi))) (h0 : 0 ≤ hi) (h1 : hi ≤ l.length) (hd : dOk C o.dst = true) :
    LOp C o σ ⟨.p (.sl es ((l.take hi.toNat).map f) false), []⟩ (fun _ => false) := by
  have := lop_slice_h (o := o) ho hx hhi h0 (by simpa using h1) hd
  rwa [← List.map_take] at this
theorem lop_sl_lh (ho : o.op = .slice T x (some xl) (some xh) none) (hT : TI C.P T (.slice e) sz by_) (he : TI C.P e ke es be) (hx : σ.look x = .p (.sl es (l.map f) ex)) (hlo : σ.look xl = .p (.v (.int kl lo))) (hhi : σ.look xh = .p (.v (.int kh hi))) (h0 : 0 ≤ lo) (h01 : lo ≤ hi) (h1 : hi ≤ l.length) (hd : dOk C o.dst = true) :
    LOp C o σ ⟨.p (.sl es (((l.drop lo.toNat).take (hi.toNat - lo.toNat)).map f) false), []⟩ (fun _ => false) := by
  have := lop_slice_lh (o := o) ho hx hlo hhi h0 h01 (by simpa using h1) hd
  rwa [← List.map_drop, ← List.map_take] at this
theorem lop_sl_hm (ho : o.op = .slice T x none (some xh) (some xm)) (hT : TI C.P T (.slice e) sz by_) (he : TI C.P e ke es be) (hx : σ.look x = .p (.sl es (l.map f) ex)) (hhi : σ.look xh = .p (.v (.int kh hi))) (hmx : σ.look xm = .p (.v (.int km mx))) (h0 : 0 ≤ hi) (hm : mx = hi) (h1 : hi ≤ l.length) (hd : dOk C o.dst = true) :
    LOp C o σ ⟨.p (.sl es ((l.take hi.toNat).map f) true), []⟩ (fun _ => false) := by
  have := lop_slice_hm (o := o) ho hx hhi hmx h0 hm (by simpa using h1) hd
  rwa [← List.map_take] at this



/-- to an exact slice -/
theorem lop_ap_ex {z : List Value} {ey : Bool} (ho : o.op = .call ⟨.builtin .append, #[x, y], #[T, T]⟩) (hT : TI C.P T (.slice e) sz by_) (he : TI C.P e ke es be) (hz : TZ C.P e z) (hx : σ.look x = .p (.sl es (l.map f) true)) (hy : σ.look y = .p (.sl es (m.map f) ey))
    (hzl : z.length = es) (h63 : l.length + m.length ≤ maxLen) (hby : (l.length + m.length) * be ≤ 140737488355328) (hd : dOk C o.dst = true) :
    LOp C o σ ⟨.p (.sl es ((l ++ m).map f) false), []⟩ (fun _ => false) := by
  have := lop_append_ex (o := o) ho hx (src_sl hy) hzl (by simpa using h63) (by simpa using hby) hd
  rwa [← List.map_append] at this
/-- to an empty exact slice -/
theorem lop_ap_e0 {z : List Value} {ey : Bool} {rows : List (List PVal)} (ho : o.op = .call ⟨.builtin .append, #[x, y], #[T, T]⟩) (hT : TI C.P T (.slice e) sz by_) (he : TI C.P e ke es be) (hz : TZ C.P e z) (hx : σ.look x = .p (.sl es [] true)) (hy : σ.look y = .p (.sl es rows ey))
    (hzl : z.length = es) (h63 : rows.length ≤ maxLen) (hby : rows.length * be ≤ 140737488355328) (hd : dOk C o.dst = true) :
    LOp C o σ ⟨.p (.sl es rows false), []⟩ (fun _ => false) := by
  have := lop_append_ex (o := o) ho hx (src_sl hy) hzl (by simpa using h63) (by simpa using hby) hd
  simpa using this
/-- one element, to an own slice -/
theorem lop_ap_o1 {z : List Value} {ey : Bool} {ob g n len : Nat} {v : α} {row : List PVal} (ho : o.op = .call ⟨.builtin .append, #[x, y], #[T, T]⟩) (hT : TI C.P T (.slice e) sz by_) (he : TI C.P e ke es be) (hz : TZ C.P e z) (hx : σ.look x = .o (.osl ob g es 0 len)) (hm : σ.mem ob = (n, some (.buf e es (l.map f)))) (hn : n = g + 1) (hlr : len = l.length)
    (hy : σ.look y = .p (.sl es [row] ey)) (hrow : row = f v) (hzl : z.length = es) (h63 : l.length + 1 ≤ maxLen) (hby : (l.length + 1) * be ≤ 140737488355328) (hd : dOk C o.dst = true) :
    LOp C o σ ⟨.o (.osl ob n es 0 (l ++ [v]).length), [(ob, (n + 1, some (.buf e es ((l ++ [v]).map f))))]⟩ (fun q => q == ob) := by
  subst hrow
  have := lop_append_osl (o := o) ho hx hm hn (by simpa using hlr) (src_sl hy) hzl (by simpa using h63) (by simpa using hby) hd
  simpa using this
/-- a slice, to an own slice -/
theorem lop_ap_on {z : List Value} {ey : Bool} {ob g n len : Nat} (ho : o.op = .call ⟨.builtin .append, #[x, y], #[T, T]⟩) (hT : TI C.P T (.slice e) sz by_) (he : TI C.P e ke es be) (hz : TZ C.P e z) (hx : σ.look x = .o (.osl ob g es 0 len)) (hm : σ.mem ob = (n, some (.buf e es (l.map f)))) (hn : n = g + 1) (hlr : len = l.length)
    (hy : σ.look y = .p (.sl es (m.map f) ey)) (hzl : z.length = es) (h63 : l.length + m.length ≤ maxLen) (hby : (l.length + m.length) * be ≤ 140737488355328) (hd : dOk C o.dst = true) :
    LOp C o σ ⟨.o (.osl ob n es 0 (l ++ m).length), [(ob, (n + 1, some (.buf e es ((l ++ m).map f))))]⟩ (fun q => q == ob) := by
  have := lop_append_osl (o := o) ho hx hm hn (by simpa using hlr) (src_sl hy) hzl (by simpa using h63) (by simpa using hby) hd
  simpa using this
theorem lop_bs0 {z : List Value} (ho : o.op = .buildSlice T 0 #[]) (hT : TI C.P T (.slice e) sz by_) (he : TI C.P e ke es be) (hz : TZ C.P e z) (hes1 : es = 1)  (hd : dOk C o.dst = true) : LOp C o σ ⟨.p (.sl es [] true), []⟩ (fun _ => false) := by
  subst hes1
  exact lop_buildSlice (ps := []) ho (.nil) rfl (by decide) (by decide) hd
theorem lop_bs1 {z : List Value} {x0 : Operand} {p0 : PVal} (ho : o.op = .buildSlice T 1 #[(0, x0)]) (hT : TI C.P T (.slice e) sz by_) (he : TI C.P e ke es be) (hz : TZ C.P e z) (hes1 : es = 1) (h0 : σ.look x0 = .p p0) (hd : dOk C o.dst = true) : LOp C o σ ⟨.p (.sl es [[p0]] true), []⟩ (fun _ => false) := by
  subst hes1
  exact lop_buildSlice (ps := [(0, [p0])]) ho (.cons ⟨rfl, rfl, _, h0, rfl⟩ (.nil)) rfl (by decide) (by decide) hd
theorem lop_bs2 {z : List Value} {x0 x1 : Operand} {p0 p1 : PVal} (ho : o.op = .buildSlice T 2 #[(0, x0), (1, x1)]) (hT : TI C.P T (.slice e) sz by_) (he : TI C.P e ke es be) (hz : TZ C.P e z) (hes1 : es = 1) (h0 : σ.look x0 = .p p0) (h1 : σ.look x1 = .p p1) (hd : dOk C o.dst = true) : LOp C o σ ⟨.p (.sl es [[p0], [p1]] true), []⟩ (fun _ => false) := by
  subst hes1
  exact lop_buildSlice (ps := [(0, [p0]), (1, [p1])]) ho (.cons ⟨rfl, rfl, _, h0, rfl⟩ (.cons ⟨rfl, rfl, _, h1, rfl⟩ (.nil))) rfl (by decide) (by decide) hd
theorem lop_bs3 {z : List Value} {x0 x1 x2 : Operand} {p0 p1 p2 : PVal} (ho : o.op = .buildSlice T 3 #[(0, x0), (1, x1), (2, x2)]) (hT : TI C.P T (.slice e) sz by_) (he : TI C.P e ke es be) (hz : TZ C.P e z) (hes1 : es = 1) (h0 : σ.look x0 = .p p0) (h1 : σ.look x1 = .p p1) (h2 : σ.look x2 = .p p2) (hd : dOk C o.dst = true) : LOp C o σ ⟨.p (.sl es [[p0], [p1], [p2]] true), []⟩ (fun _ => false) := by
  subst hes1
  exact lop_buildSlice (ps := [(0, [p0]), (1, [p1]), (2, [p2])]) ho (.cons ⟨rfl, rfl, _, h0, rfl⟩ (.cons ⟨rfl, rfl, _, h1, rfl⟩ (.cons ⟨rfl, rfl, _, h2, rfl⟩ (.nil)))) rfl (by decide) (by decide) hd
theorem lop_bs4 {z : List Value} {x0 x1 x2 x3 : Operand} {p0 p1 p2 p3 : PVal} (ho : o.op = .buildSlice T 4 #[(0, x0), (1, x1), (2, x2), (3, x3)]) (hT : TI C.P T (.slice e) sz by_) (he : TI C.P e ke es be) (hz : TZ C.P e z) (hes1 : es = 1) (h0 : σ.look x0 = .p p0) (h1 : σ.look x1 = .p p1) (h2 : σ.look x2 = .p p2) (h3 : σ.look x3 = .p p3) (hd : dOk C o.dst = true) : LOp C o σ ⟨.p (.sl es [[p0], [p1], [p2], [p3]] true), []⟩ (fun _ => false) := by
  subst hes1
  exact lop_buildSlice (ps := [(0, [p0]), (1, [p1]), (2, [p2]), (3, [p3])]) ho (.cons ⟨rfl, rfl, _, h0, rfl⟩ (.cons ⟨rfl, rfl, _, h1, rfl⟩ (.cons ⟨rfl, rfl, _, h2, rfl⟩ (.cons ⟨rfl, rfl, _, h3, rfl⟩ (.nil))))) rfl (by decide) (by decide) hd
theorem lop_bs5 {z : List Value} {x0 x1 x2 x3 x4 : Operand} {p0 p1 p2 p3 p4 : PVal} (ho : o.op = .buildSlice T 5 #[(0, x0), (1, x1), (2, x2), (3, x3), (4, x4)]) (hT : TI C.P T (.slice e) sz by_) (he : TI C.P e ke es be) (hz : TZ C.P e z) (hes1 : es = 1) (h0 : σ.look x0 = .p p0) (h1 : σ.look x1 = .p p1) (h2 : σ.look x2 = .p p2) (h3 : σ.look x3 = .p p3) (h4 : σ.look x4 = .p p4) (hd : dOk C o.dst = true) : LOp C o σ ⟨.p (.sl es [[p0], [p1], [p2], [p3], [p4]] true), []⟩ (fun _ => false) := by
  subst hes1
  exact lop_buildSlice (ps := [(0, [p0]), (1, [p1]), (2, [p2]), (3, [p3]), (4, [p4])]) ho (.cons ⟨rfl, rfl, _, h0, rfl⟩ (.cons ⟨rfl, rfl, _, h1, rfl⟩ (.cons ⟨rfl, rfl, _, h2, rfl⟩ (.cons ⟨rfl, rfl, _, h3, rfl⟩ (.cons ⟨rfl, rfl, _, h4, rfl⟩ (.nil)))))) rfl (by decide) (by decide) hd
end ops
theorem lk_m0 {σ : St} {x : Operand} {k : IntKind} {ex : Bool} (h : σ.look x = .p (.sl 1 [] ex)) : σ.look x = .p (.sl 1 (([] : List Int).map fun n => [PVal.v (.int k n)]) ex) := h
theorem lk_m1 {σ : St} {x : Operand} {k : IntKind} {ex : Bool} {n0 : Int} (h : σ.look x = .p (.sl 1 [[PVal.v (.int k n0)]] ex)) : σ.look x = .p (.sl 1 (([n0] : List Int).map fun n => [PVal.v (.int k n)]) ex) := h
theorem lk_m2 {σ : St} {x : Operand} {k : IntKind} {ex : Bool} {n0 n1 : Int} (h : σ.look x = .p (.sl 1 [[PVal.v (.int k n0)], [PVal.v (.int k n1)]] ex)) : σ.look x = .p (.sl 1 (([n0, n1] : List Int).map fun n => [PVal.v (.int k n)]) ex) := h
theorem lk_m3 {σ : St} {x : Operand} {k : IntKind} {ex : Bool} {n0 n1 n2 : Int} (h : σ.look x = .p (.sl 1 [[PVal.v (.int k n0)], [PVal.v (.int k n1)], [PVal.v (.int k n2)]] ex)) : σ.look x = .p (.sl 1 (([n0, n1, n2] : List Int).map fun n => [PVal.v (.int k n)]) ex) := h
theorem lk_m4 {σ : St} {x : Operand} {k : IntKind} {ex : Bool} {n0 n1 n2 n3 : Int} (h : σ.look x = .p (.sl 1 [[PVal.v (.int k n0)], [PVal.v (.int k n1)], [PVal.v (.int k n2)], [PVal.v (.int k n3)]] ex)) : σ.look x = .p (.sl 1 (([n0, n1, n2, n3] : List Int).map fun n => [PVal.v (.int k n)]) ex) := h
end Go.Aw
