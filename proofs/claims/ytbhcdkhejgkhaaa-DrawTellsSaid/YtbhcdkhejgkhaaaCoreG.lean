/- THE ABSTRACT WALK, part 7: the steps in the form in which walks take them; contracts as instances. -/
import Derived.Test.YtbhcdkhejgkhaaaCoreF
namespace Go.Aw
open Go Go.RowKit
set_option linter.unusedVariables false
set_option linter.unusedSimpArgs false

/-- a contract that is found by the function's number and the arguments' form -/
class PC (P : Program) (f : FuncId) (args : List AV) (pre : outParam Prop) (r : outParam AV) : Prop where
  call : pre → PCall P f args r

class PureAV (a : AV) : Prop where
  pure : Ent a a
instance {x : PVal} : PureAV (.p x) := ⟨Ent.p⟩
class PureL (cs : List AC) : Prop where
  pure : ∀ c ∈ cs, c.isP = true
instance : PureL [] := ⟨by simp⟩
instance {x : PVal} {cs : List AC} [h : PureL cs] : PureL (.p x :: cs) := ⟨by intro c hc; simp at hc; rcases hc with rfl | hc; rfl; exact h.pure c hc⟩
instance {α : Type} {l : List α} {f : α → PVal} : PureL (l.map fun x => .p (f x)) := ⟨by intro c hc; simp at hc; obtain ⟨x, _, rfl⟩ := hc; rfl⟩
instance {l : List PVal} : PureL (l.map .p) := ⟨by intro c hc; simp at hc; obtain ⟨x, _, rfl⟩ := hc; rfl⟩
instance {cs ds : List AC} [h : PureL cs] [k : PureL ds] : PureL (cs ++ ds) := ⟨by intro c hc; simp at hc; rcases hc with hc | hc; exact h.pure c hc; exact k.pure c hc⟩
instance {cs : List AC} [h : PureL cs] : PureAV (.a cs) := ⟨Ent.agg h.pure⟩
class PureAVs (l : List AV) : Prop where
  pure : All2 Ent l l
instance : PureAVs [] := ⟨.nil⟩
instance {a : AV} {l : List AV} [h : PureAV a] [k : PureAVs l] : PureAVs (a :: l) := ⟨.cons h.pure k.pure⟩

section steps
variable {C : Ctx} {ops : Array Oper} {o : Oper} {rest : List Oper} {K : St → Prop} {σ : St} {e : Eff} {ro : Nat → Bool}

theorem rn_nil (h : K σ) : RunN C ops [] K σ := h
theorem rn_step (hg : o.guard = none) (h : LOp C o σ e ro) (hk : RunN C ops rest K (e.app o.dst σ)) : RunN C ops (o :: rest) K σ :=
  .inl ⟨by unfold Guard; rw [hg], _, h.ok, hk⟩
theorem rn_gt {j t : Nat} {want b : Bool} (hg : o.guard = some (j, want)) (ht : (ops[j]?).bind (·.dst) = some t) (hv : σ.env t = .p (.v (.bool b))) (hb : b = want) (h : LOp C o σ e ro) (hk : RunN C ops rest K (e.app o.dst σ)) : RunN C ops (o :: rest) K σ :=
  .inl ⟨by unfold Guard; rw [hg]; exact ⟨t, b, ht, hv, by simp [hb]⟩, _, h.ok, hk⟩
theorem rn_gf {j t : Nat} {want b : Bool} (hg : o.guard = some (j, want)) (ht : (ops[j]?).bind (·.dst) = some t) (hv : σ.env t = .p (.v (.bool b))) {d : Nat} (hb : b = !want) (hdd : o.dst = some d) (hd : dOk C o.dst = true) (hk : RunN C ops rest K (σ.set (some d) .un)) : RunN C ops (o :: rest) K σ := by
  rw [← hdd] at hk; exact .inr ⟨by unfold Guard; rw [hg]; exact ⟨t, b, ht, hv, by cases want <;> simp [hb]⟩, hd, hk⟩
/-- a guard that is not known: both ways -/
theorem rn_split {j t : Nat} {want b : Bool} (hg : o.guard = some (j, want)) (ht : (ops[j]?).bind (·.dst) = some t) (hv : σ.env t = .p (.v (.bool b))) (h1 : b = true → RunN C ops (o :: rest) K σ) (h2 : b = false → RunN C ops (o :: rest) K σ) : RunN C ops (o :: rest) K σ := by
  cases b with
  | true => exact h1 rfl
  | false => exact h2 rfl

theorem aws_nil {Q : Exit → St → Prop} (h : Q .normal σ) : AWs C [] Q σ := h
theorem aws_blk_s {x y : Code} {k : List Code} {Q : Exit → St → Prop} {id : Nat} (h : AWs C [x, y] (blk id (AWs C k Q) Q) σ) : AWs C (.block id (.seq x y) :: k) Q σ := aws_block (aws_seq h)
theorem aws_blk_r {i : Nat} {l : Array Oper} {b : Bool} {k : List Code} {Q : Exit → St → Prop} {id : Nat} (h : AWs C [.region i l b] (blk id (AWs C k Q) Q) σ) : AWs C (.block id (.region i l b) :: k) Q σ := aws_block h
theorem aws_blk_c {x y : Code} {o : Operand} {k : List Code} {Q : Exit → St → Prop} {id : Nat} (h : AWs C [.cond o x y] (blk id (AWs C k Q) Q) σ) : AWs C (.block id (.cond o x y) :: k) Q σ := aws_block h
theorem aws_if {cd : Operand} {x y : Code} {k : List Code} {Q : Exit → St → Prop} {b : Bool} (hv : σ.look cd = .p (.v (.bool b))) (h1 : b = true → AWs C (x :: k) Q σ) (h2 : b = false → AWs C (y :: k) Q σ) : AWs C (.cond cd x y :: k) Q σ :=
  aws_cond (fun G a w h => val_of h hv) h1 h2
theorem aws_if_t {cd : Operand} {x y : Code} {k : List Code} {Q : Exit → St → Prop} {b : Bool} (hv : σ.look cd = .p (.v (.bool b))) (hb : b = true) (h1 : AWs C (x :: k) Q σ) : AWs C (.cond cd x y :: k) Q σ :=
  aws_if hv (fun _ => h1) (fun h => by rw [hb] at h; cases h)
theorem aws_if_f {cd : Operand} {x y : Code} {k : List Code} {Q : Exit → St → Prop} {b : Bool} (hv : σ.look cd = .p (.v (.bool b))) (hb : b = false) (h1 : AWs C (y :: k) Q σ) : AWs C (.cond cd x y :: k) Q σ :=
  aws_if hv (fun h => by rw [hb] at h; cases h) (fun _ => h1)

theorem lop_callp {f : FuncId} {as : Array Operand} {ts : Array TypeId} {args : List AV} {r : AV} {pre : Prop} [hfn : FnT C.P f] (ho : o.op = .call ⟨.value (.func f), as, ts⟩) (ha : as.toList.map σ.look = args) [hp : PureAVs args] [hc : PC C.P f args pre r] (hpre : pre) (hd : dOk C o.dst = true) :
    LOp C o σ ⟨r, []⟩ (fun _ => false) :=
  lop_call ho (by rw [ha]; exact hp.pure) (hc.call hpre) hd

theorem gd_n {r : Bool} (hg : o.guard = none) (hr : r = true) : Guard ops σ o r := by unfold Guard; rw [hg]; exact hr
theorem gd_t {j t : Nat} {want b : Bool} (hg : o.guard = some (j, want)) (ht : (ops[j]?).bind (·.dst) = some t) (hv : σ.env t = .p (.v (.bool b))) (hb : b = want) : Guard ops σ o true := by
  unfold Guard; rw [hg]; exact ⟨t, b, ht, hv, by simp [hb]⟩
theorem rn_any {d : Nat} (hg : Guard ops σ o true) (hd : o.dst = some d) (h : LOp C o σ e ro) (hk : RunN C ops rest K (e.app (some d) σ)) : RunN C ops (o :: rest) K σ := by rw [← hd] at hk; exact .inl ⟨hg, _, h.ok, hk⟩
theorem rn_sto (hg : Guard ops σ o true) (hd : o.dst = none) (h : LOp C o σ e ro) (hk : RunN C ops rest K (e.app none σ)) : RunN C ops (o :: rest) K σ := by rw [← hd] at hk; exact .inl ⟨hg, _, h.ok, hk⟩
theorem lk_o {x : Operand} {c : AC} (h : σ.look x = .s (.one c)) : σ.look x = .s (.one c) := h
theorem lk_a {x : Operand} {c : List AC} (h : σ.look x = .s (.agg c)) : σ.look x = .s (.agg c) := h
theorem lop_calln {f : FuncId} {as : Array Operand} {ts : Array TypeId} {args : List AV} {r : AV} {pre : Prop} (ho : o.op = .call ⟨.value (.func f), as, ts⟩) (hfn : FnT C.P f) (ha : All2 (fun x a => σ.look x = a) as.toList args) (hp : PureAVs args) (hc : PC C.P f args pre r) (hpre : pre) (hd : dOk C o.dst = true) :
    LOp C o σ ⟨r, []⟩ (fun _ => false) := by
  refine lop_call ho (args := args) ?_ (hc.call hpre) hd
  refine ⟨by simp [ha.1], fun i a b h1 h2 => ?_⟩
  rw [List.getElem?_map] at h1
  cases hx : as.toList[i]? with
  | none => rw [hx] at h1; cases h1
  | some x =>
    rw [hx] at h1; simp at h1; subst h1
    rw [ha.2 i x b hx h2]
    exact hp.pure.2 i b b h2 h2

theorem lop_buildx {T : TypeId} {parts : Array (Nat × Operand)} {fs : List (Nat × Nat)} {z : List Value} {ps : List (Nat × List AC)} {cs : List AC} (ho : o.op = .build T parts) (hF : TF C.P T fs) (hz : TZ C.P T z)
    (hp : All2 (fun (x : Nat × Operand) (p : Nat × List AC) => x.1 = p.1 ∧ ∃ s, σ.look x.2 = .s s ∧ s.cells = p.2) parts.toList ps) (h1 : z.all (·.oneCell') = true)
    (hb : bfill (fun i => fs[i]?) (z.map fun v => .p (.v v)) ps = some cs) (hd : dOk C o.dst = true) : LOp C o σ ⟨.a cs, []⟩ (fun _ => false) := lop_build ho hp h1 hb hd
theorem lk_a0 {x : Operand} (h : σ.look x = .s (.agg [])) : σ.look x = .s (.agg []) := h
theorem lk_a1 {x : Operand} {c0 : AC} (h : σ.look x = .s (.agg [c0])) : σ.look x = .s (.agg [c0]) := h
theorem lk_a2 {x : Operand} {c0 c1 : AC} (h : σ.look x = .s (.agg [c0, c1])) : σ.look x = .s (.agg [c0, c1]) := h
theorem lk_a3 {x : Operand} {c0 c1 c2 : AC} (h : σ.look x = .s (.agg [c0, c1, c2])) : σ.look x = .s (.agg [c0, c1, c2]) := h
theorem lk_a4 {x : Operand} {c0 c1 c2 c3 : AC} (h : σ.look x = .s (.agg [c0, c1, c2, c3])) : σ.look x = .s (.agg [c0, c1, c2, c3]) := h
theorem lk_a5 {x : Operand} {c0 c1 c2 c3 c4 : AC} (h : σ.look x = .s (.agg [c0, c1, c2, c3, c4])) : σ.look x = .s (.agg [c0, c1, c2, c3, c4]) := h
theorem lk_a6 {x : Operand} {c0 c1 c2 c3 c4 c5 : AC} (h : σ.look x = .s (.agg [c0, c1, c2, c3, c4, c5])) : σ.look x = .s (.agg [c0, c1, c2, c3, c4, c5]) := h
theorem lk_a7 {x : Operand} {c0 c1 c2 c3 c4 c5 c6 : AC} (h : σ.look x = .s (.agg [c0, c1, c2, c3, c4, c5, c6])) : σ.look x = .s (.agg [c0, c1, c2, c3, c4, c5, c6]) := h
theorem lk_a8 {x : Operand} {c0 c1 c2 c3 c4 c5 c6 c7 : AC} (h : σ.look x = .s (.agg [c0, c1, c2, c3, c4, c5, c6, c7])) : σ.look x = .s (.agg [c0, c1, c2, c3, c4, c5, c6, c7]) := h
theorem lk_a9 {x : Operand} {c0 c1 c2 c3 c4 c5 c6 c7 c8 : AC} (h : σ.look x = .s (.agg [c0, c1, c2, c3, c4, c5, c6, c7, c8])) : σ.look x = .s (.agg [c0, c1, c2, c3, c4, c5, c6, c7, c8]) := h
theorem lk_a10 {x : Operand} {c0 c1 c2 c3 c4 c5 c6 c7 c8 c9 : AC} (h : σ.look x = .s (.agg [c0, c1, c2, c3, c4, c5, c6, c7, c8, c9])) : σ.look x = .s (.agg [c0, c1, c2, c3, c4, c5, c6, c7, c8, c9]) := h
theorem lk_a11 {x : Operand} {c0 c1 c2 c3 c4 c5 c6 c7 c8 c9 c10 : AC} (h : σ.look x = .s (.agg [c0, c1, c2, c3, c4, c5, c6, c7, c8, c9, c10])) : σ.look x = .s (.agg [c0, c1, c2, c3, c4, c5, c6, c7, c8, c9, c10]) := h
theorem lk_a12 {x : Operand} {c0 c1 c2 c3 c4 c5 c6 c7 c8 c9 c10 c11 : AC} (h : σ.look x = .s (.agg [c0, c1, c2, c3, c4, c5, c6, c7, c8, c9, c10, c11])) : σ.look x = .s (.agg [c0, c1, c2, c3, c4, c5, c6, c7, c8, c9, c10, c11]) := h
theorem ln0 {x : List AC} (h : x = []) : x = [] := h
theorem sn0 {x : Option (List AC)} (h : x = some []) : x = some [] := h
theorem ln1 {x : List AC} {c0 : AC} (h : x = [c0]) : x = [c0] := h
theorem sn1 {x : Option (List AC)} {c0 : AC} (h : x = some [c0]) : x = some [c0] := h
theorem ln2 {x : List AC} {c0 c1 : AC} (h : x = [c0, c1]) : x = [c0, c1] := h
theorem sn2 {x : Option (List AC)} {c0 c1 : AC} (h : x = some [c0, c1]) : x = some [c0, c1] := h
theorem ln3 {x : List AC} {c0 c1 c2 : AC} (h : x = [c0, c1, c2]) : x = [c0, c1, c2] := h
theorem sn3 {x : Option (List AC)} {c0 c1 c2 : AC} (h : x = some [c0, c1, c2]) : x = some [c0, c1, c2] := h
theorem ln4 {x : List AC} {c0 c1 c2 c3 : AC} (h : x = [c0, c1, c2, c3]) : x = [c0, c1, c2, c3] := h
theorem sn4 {x : Option (List AC)} {c0 c1 c2 c3 : AC} (h : x = some [c0, c1, c2, c3]) : x = some [c0, c1, c2, c3] := h
theorem ln5 {x : List AC} {c0 c1 c2 c3 c4 : AC} (h : x = [c0, c1, c2, c3, c4]) : x = [c0, c1, c2, c3, c4] := h
theorem sn5 {x : Option (List AC)} {c0 c1 c2 c3 c4 : AC} (h : x = some [c0, c1, c2, c3, c4]) : x = some [c0, c1, c2, c3, c4] := h
theorem ln6 {x : List AC} {c0 c1 c2 c3 c4 c5 : AC} (h : x = [c0, c1, c2, c3, c4, c5]) : x = [c0, c1, c2, c3, c4, c5] := h
theorem sn6 {x : Option (List AC)} {c0 c1 c2 c3 c4 c5 : AC} (h : x = some [c0, c1, c2, c3, c4, c5]) : x = some [c0, c1, c2, c3, c4, c5] := h
theorem ln7 {x : List AC} {c0 c1 c2 c3 c4 c5 c6 : AC} (h : x = [c0, c1, c2, c3, c4, c5, c6]) : x = [c0, c1, c2, c3, c4, c5, c6] := h
theorem sn7 {x : Option (List AC)} {c0 c1 c2 c3 c4 c5 c6 : AC} (h : x = some [c0, c1, c2, c3, c4, c5, c6]) : x = some [c0, c1, c2, c3, c4, c5, c6] := h
theorem ln8 {x : List AC} {c0 c1 c2 c3 c4 c5 c6 c7 : AC} (h : x = [c0, c1, c2, c3, c4, c5, c6, c7]) : x = [c0, c1, c2, c3, c4, c5, c6, c7] := h
theorem sn8 {x : Option (List AC)} {c0 c1 c2 c3 c4 c5 c6 c7 : AC} (h : x = some [c0, c1, c2, c3, c4, c5, c6, c7]) : x = some [c0, c1, c2, c3, c4, c5, c6, c7] := h
theorem ln9 {x : List AC} {c0 c1 c2 c3 c4 c5 c6 c7 c8 : AC} (h : x = [c0, c1, c2, c3, c4, c5, c6, c7, c8]) : x = [c0, c1, c2, c3, c4, c5, c6, c7, c8] := h
theorem sn9 {x : Option (List AC)} {c0 c1 c2 c3 c4 c5 c6 c7 c8 : AC} (h : x = some [c0, c1, c2, c3, c4, c5, c6, c7, c8]) : x = some [c0, c1, c2, c3, c4, c5, c6, c7, c8] := h
theorem ln10 {x : List AC} {c0 c1 c2 c3 c4 c5 c6 c7 c8 c9 : AC} (h : x = [c0, c1, c2, c3, c4, c5, c6, c7, c8, c9]) : x = [c0, c1, c2, c3, c4, c5, c6, c7, c8, c9] := h
theorem sn10 {x : Option (List AC)} {c0 c1 c2 c3 c4 c5 c6 c7 c8 c9 : AC} (h : x = some [c0, c1, c2, c3, c4, c5, c6, c7, c8, c9]) : x = some [c0, c1, c2, c3, c4, c5, c6, c7, c8, c9] := h
theorem ln11 {x : List AC} {c0 c1 c2 c3 c4 c5 c6 c7 c8 c9 c10 : AC} (h : x = [c0, c1, c2, c3, c4, c5, c6, c7, c8, c9, c10]) : x = [c0, c1, c2, c3, c4, c5, c6, c7, c8, c9, c10] := h
theorem sn11 {x : Option (List AC)} {c0 c1 c2 c3 c4 c5 c6 c7 c8 c9 c10 : AC} (h : x = some [c0, c1, c2, c3, c4, c5, c6, c7, c8, c9, c10]) : x = some [c0, c1, c2, c3, c4, c5, c6, c7, c8, c9, c10] := h
theorem ln12 {x : List AC} {c0 c1 c2 c3 c4 c5 c6 c7 c8 c9 c10 c11 : AC} (h : x = [c0, c1, c2, c3, c4, c5, c6, c7, c8, c9, c10, c11]) : x = [c0, c1, c2, c3, c4, c5, c6, c7, c8, c9, c10, c11] := h
theorem sn12 {x : Option (List AC)} {c0 c1 c2 c3 c4 c5 c6 c7 c8 c9 c10 c11 : AC} (h : x = some [c0, c1, c2, c3, c4, c5, c6, c7, c8, c9, c10, c11]) : x = some [c0, c1, c2, c3, c4, c5, c6, c7, c8, c9, c10, c11] := h
theorem lop_store_x {T : TypeId} {x y : Operand} {k : TK} {sz by_ : Nat} {ob g off n : Nat} {ty : TypeId} {cs ds : List AC} {c : AC} (ho : o.op = .store T x y) (hT : TI C.P T k sz by_) (hdst : o.dst = none) (hx : σ.look x = .o (.ptr ob g off)) (hy : σ.look y = .o c)
    (hm : σ.mem ob = (n, some (.box ty cs))) (hn : n = g + 1) (hs : sz = 1) (hl : off < cs.length) (hds : cs.set off c = ds) :
    LOp C o σ ⟨.un, [(ob, (n, some (.box ty ds)))]⟩ (fun z => z == ob) := by subst hds; exact lop_store_one ho hdst hx hy hm hn hl hs
theorem lk_o' {x : Operand} {s : SV} {c : AC} (h : σ.look x = .s (.one c)) (hs : s = .one c) : σ.look x = .s s := by rw [hs]; exact h
theorem lop_call0 {f : FuncId} {ts : Array TypeId} { r : AV} {pre : Prop} (ho : o.op = .call ⟨.value (.func f), #[], ts⟩) (hfn : FnT C.P f)  (hp : PureAVs []) (hc : PC C.P f [] pre r) (hpre : pre) (hd : dOk C o.dst = true) :
    LOp C o σ ⟨r, []⟩ (fun _ => false) := lop_calln ho hfn (.nil) hp hc hpre hd
theorem lop_call1 {f : FuncId} {x0 : Operand} {ts : Array TypeId} {a0 r : AV} {pre : Prop} (ho : o.op = .call ⟨.value (.func f), #[x0], ts⟩) (hfn : FnT C.P f) (h0 : σ.look x0 = a0) (hp : PureAVs [a0]) (hc : PC C.P f [a0] pre r) (hpre : pre) (hd : dOk C o.dst = true) :
    LOp C o σ ⟨r, []⟩ (fun _ => false) := lop_calln ho hfn (.cons h0 (.nil)) hp hc hpre hd
theorem lop_call2 {f : FuncId} {x0 x1 : Operand} {ts : Array TypeId} {a0 a1 r : AV} {pre : Prop} (ho : o.op = .call ⟨.value (.func f), #[x0, x1], ts⟩) (hfn : FnT C.P f) (h0 : σ.look x0 = a0) (h1 : σ.look x1 = a1) (hp : PureAVs [a0, a1]) (hc : PC C.P f [a0, a1] pre r) (hpre : pre) (hd : dOk C o.dst = true) :
    LOp C o σ ⟨r, []⟩ (fun _ => false) := lop_calln ho hfn (.cons h0 (.cons h1 (.nil))) hp hc hpre hd
theorem lop_call3 {f : FuncId} {x0 x1 x2 : Operand} {ts : Array TypeId} {a0 a1 a2 r : AV} {pre : Prop} (ho : o.op = .call ⟨.value (.func f), #[x0, x1, x2], ts⟩) (hfn : FnT C.P f) (h0 : σ.look x0 = a0) (h1 : σ.look x1 = a1) (h2 : σ.look x2 = a2) (hp : PureAVs [a0, a1, a2]) (hc : PC C.P f [a0, a1, a2] pre r) (hpre : pre) (hd : dOk C o.dst = true) :
    LOp C o σ ⟨r, []⟩ (fun _ => false) := lop_calln ho hfn (.cons h0 (.cons h1 (.cons h2 (.nil)))) hp hc hpre hd
theorem lop_call4 {f : FuncId} {x0 x1 x2 x3 : Operand} {ts : Array TypeId} {a0 a1 a2 a3 r : AV} {pre : Prop} (ho : o.op = .call ⟨.value (.func f), #[x0, x1, x2, x3], ts⟩) (hfn : FnT C.P f) (h0 : σ.look x0 = a0) (h1 : σ.look x1 = a1) (h2 : σ.look x2 = a2) (h3 : σ.look x3 = a3) (hp : PureAVs [a0, a1, a2, a3]) (hc : PC C.P f [a0, a1, a2, a3] pre r) (hpre : pre) (hd : dOk C o.dst = true) :
    LOp C o σ ⟨r, []⟩ (fun _ => false) := lop_calln ho hfn (.cons h0 (.cons h1 (.cons h2 (.cons h3 (.nil))))) hp hc hpre hd
theorem lop_call5 {f : FuncId} {x0 x1 x2 x3 x4 : Operand} {ts : Array TypeId} {a0 a1 a2 a3 a4 r : AV} {pre : Prop} (ho : o.op = .call ⟨.value (.func f), #[x0, x1, x2, x3, x4], ts⟩) (hfn : FnT C.P f) (h0 : σ.look x0 = a0) (h1 : σ.look x1 = a1) (h2 : σ.look x2 = a2) (h3 : σ.look x3 = a3) (h4 : σ.look x4 = a4) (hp : PureAVs [a0, a1, a2, a3, a4]) (hc : PC C.P f [a0, a1, a2, a3, a4] pre r) (hpre : pre) (hd : dOk C o.dst = true) :
    LOp C o σ ⟨r, []⟩ (fun _ => false) := lop_calln ho hfn (.cons h0 (.cons h1 (.cons h2 (.cons h3 (.cons h4 (.nil)))))) hp hc hpre hd
theorem lop_call6 {f : FuncId} {x0 x1 x2 x3 x4 x5 : Operand} {ts : Array TypeId} {a0 a1 a2 a3 a4 a5 r : AV} {pre : Prop} (ho : o.op = .call ⟨.value (.func f), #[x0, x1, x2, x3, x4, x5], ts⟩) (hfn : FnT C.P f) (h0 : σ.look x0 = a0) (h1 : σ.look x1 = a1) (h2 : σ.look x2 = a2) (h3 : σ.look x3 = a3) (h4 : σ.look x4 = a4) (h5 : σ.look x5 = a5) (hp : PureAVs [a0, a1, a2, a3, a4, a5]) (hc : PC C.P f [a0, a1, a2, a3, a4, a5] pre r) (hpre : pre) (hd : dOk C o.dst = true) :
    LOp C o σ ⟨r, []⟩ (fun _ => false) := lop_calln ho hfn (.cons h0 (.cons h1 (.cons h2 (.cons h3 (.cons h4 (.cons h5 (.nil))))))) hp hc hpre hd
theorem lop_call7 {f : FuncId} {x0 x1 x2 x3 x4 x5 x6 : Operand} {ts : Array TypeId} {a0 a1 a2 a3 a4 a5 a6 r : AV} {pre : Prop} (ho : o.op = .call ⟨.value (.func f), #[x0, x1, x2, x3, x4, x5, x6], ts⟩) (hfn : FnT C.P f) (h0 : σ.look x0 = a0) (h1 : σ.look x1 = a1) (h2 : σ.look x2 = a2) (h3 : σ.look x3 = a3) (h4 : σ.look x4 = a4) (h5 : σ.look x5 = a5) (h6 : σ.look x6 = a6) (hp : PureAVs [a0, a1, a2, a3, a4, a5, a6]) (hc : PC C.P f [a0, a1, a2, a3, a4, a5, a6] pre r) (hpre : pre) (hd : dOk C o.dst = true) :
    LOp C o σ ⟨r, []⟩ (fun _ => false) := lop_calln ho hfn (.cons h0 (.cons h1 (.cons h2 (.cons h3 (.cons h4 (.cons h5 (.cons h6 (.nil)))))))) hp hc hpre hd
theorem lop_call8 {f : FuncId} {x0 x1 x2 x3 x4 x5 x6 x7 : Operand} {ts : Array TypeId} {a0 a1 a2 a3 a4 a5 a6 a7 r : AV} {pre : Prop} (ho : o.op = .call ⟨.value (.func f), #[x0, x1, x2, x3, x4, x5, x6, x7], ts⟩) (hfn : FnT C.P f) (h0 : σ.look x0 = a0) (h1 : σ.look x1 = a1) (h2 : σ.look x2 = a2) (h3 : σ.look x3 = a3) (h4 : σ.look x4 = a4) (h5 : σ.look x5 = a5) (h6 : σ.look x6 = a6) (h7 : σ.look x7 = a7) (hp : PureAVs [a0, a1, a2, a3, a4, a5, a6, a7]) (hc : PC C.P f [a0, a1, a2, a3, a4, a5, a6, a7] pre r) (hpre : pre) (hd : dOk C o.dst = true) :
    LOp C o σ ⟨r, []⟩ (fun _ => false) := lop_calln ho hfn (.cons h0 (.cons h1 (.cons h2 (.cons h3 (.cons h4 (.cons h5 (.cons h6 (.cons h7 (.nil))))))))) hp hc hpre hd
theorem lop_build0 {T : TypeId} {fs : List (Nat × Nat)} {z : List Value} {cs : List AC} (ho : o.op = .build T #[]) (hF : TF C.P T fs) (hz : TZ C.P T z)  (h1 : z.all (·.oneCell') = true)
    (hb : bfill (fun i => fs[i]?) (z.map fun v => .p (.v v)) [] = some cs) (hd : dOk C o.dst = true) : LOp C o σ ⟨.a cs, []⟩ (fun _ => false) := lop_buildx ho hF hz (.nil) h1 hb hd
theorem lop_build1 {T : TypeId} {k0 : Nat} {x0 : Operand} {s0 : SV} {fs : List (Nat × Nat)} {z : List Value} {cs : List AC} (ho : o.op = .build T #[(k0, x0)]) (hF : TF C.P T fs) (hz : TZ C.P T z) (g0 : σ.look x0 = .s s0) (h1 : z.all (·.oneCell') = true)
    (hb : bfill (fun i => fs[i]?) (z.map fun v => .p (.v v)) [(k0, s0.cells)] = some cs) (hd : dOk C o.dst = true) : LOp C o σ ⟨.a cs, []⟩ (fun _ => false) := lop_buildx ho hF hz (.cons ⟨rfl, _, g0, rfl⟩ (.nil)) h1 hb hd
theorem lop_build2 {T : TypeId} {k0 k1 : Nat} {x0 x1 : Operand} {s0 s1 : SV} {fs : List (Nat × Nat)} {z : List Value} {cs : List AC} (ho : o.op = .build T #[(k0, x0), (k1, x1)]) (hF : TF C.P T fs) (hz : TZ C.P T z) (g0 : σ.look x0 = .s s0) (g1 : σ.look x1 = .s s1) (h1 : z.all (·.oneCell') = true)
    (hb : bfill (fun i => fs[i]?) (z.map fun v => .p (.v v)) [(k0, s0.cells), (k1, s1.cells)] = some cs) (hd : dOk C o.dst = true) : LOp C o σ ⟨.a cs, []⟩ (fun _ => false) := lop_buildx ho hF hz (.cons ⟨rfl, _, g0, rfl⟩ (.cons ⟨rfl, _, g1, rfl⟩ (.nil))) h1 hb hd
theorem lop_build3 {T : TypeId} {k0 k1 k2 : Nat} {x0 x1 x2 : Operand} {s0 s1 s2 : SV} {fs : List (Nat × Nat)} {z : List Value} {cs : List AC} (ho : o.op = .build T #[(k0, x0), (k1, x1), (k2, x2)]) (hF : TF C.P T fs) (hz : TZ C.P T z) (g0 : σ.look x0 = .s s0) (g1 : σ.look x1 = .s s1) (g2 : σ.look x2 = .s s2) (h1 : z.all (·.oneCell') = true)
    (hb : bfill (fun i => fs[i]?) (z.map fun v => .p (.v v)) [(k0, s0.cells), (k1, s1.cells), (k2, s2.cells)] = some cs) (hd : dOk C o.dst = true) : LOp C o σ ⟨.a cs, []⟩ (fun _ => false) := lop_buildx ho hF hz (.cons ⟨rfl, _, g0, rfl⟩ (.cons ⟨rfl, _, g1, rfl⟩ (.cons ⟨rfl, _, g2, rfl⟩ (.nil)))) h1 hb hd
theorem lop_build4 {T : TypeId} {k0 k1 k2 k3 : Nat} {x0 x1 x2 x3 : Operand} {s0 s1 s2 s3 : SV} {fs : List (Nat × Nat)} {z : List Value} {cs : List AC} (ho : o.op = .build T #[(k0, x0), (k1, x1), (k2, x2), (k3, x3)]) (hF : TF C.P T fs) (hz : TZ C.P T z) (g0 : σ.look x0 = .s s0) (g1 : σ.look x1 = .s s1) (g2 : σ.look x2 = .s s2) (g3 : σ.look x3 = .s s3) (h1 : z.all (·.oneCell') = true)
    (hb : bfill (fun i => fs[i]?) (z.map fun v => .p (.v v)) [(k0, s0.cells), (k1, s1.cells), (k2, s2.cells), (k3, s3.cells)] = some cs) (hd : dOk C o.dst = true) : LOp C o σ ⟨.a cs, []⟩ (fun _ => false) := lop_buildx ho hF hz (.cons ⟨rfl, _, g0, rfl⟩ (.cons ⟨rfl, _, g1, rfl⟩ (.cons ⟨rfl, _, g2, rfl⟩ (.cons ⟨rfl, _, g3, rfl⟩ (.nil))))) h1 hb hd
theorem lop_build5 {T : TypeId} {k0 k1 k2 k3 k4 : Nat} {x0 x1 x2 x3 x4 : Operand} {s0 s1 s2 s3 s4 : SV} {fs : List (Nat × Nat)} {z : List Value} {cs : List AC} (ho : o.op = .build T #[(k0, x0), (k1, x1), (k2, x2), (k3, x3), (k4, x4)]) (hF : TF C.P T fs) (hz : TZ C.P T z) (g0 : σ.look x0 = .s s0) (g1 : σ.look x1 = .s s1) (g2 : σ.look x2 = .s s2) (g3 : σ.look x3 = .s s3) (g4 : σ.look x4 = .s s4) (h1 : z.all (·.oneCell') = true)
    (hb : bfill (fun i => fs[i]?) (z.map fun v => .p (.v v)) [(k0, s0.cells), (k1, s1.cells), (k2, s2.cells), (k3, s3.cells), (k4, s4.cells)] = some cs) (hd : dOk C o.dst = true) : LOp C o σ ⟨.a cs, []⟩ (fun _ => false) := lop_buildx ho hF hz (.cons ⟨rfl, _, g0, rfl⟩ (.cons ⟨rfl, _, g1, rfl⟩ (.cons ⟨rfl, _, g2, rfl⟩ (.cons ⟨rfl, _, g3, rfl⟩ (.cons ⟨rfl, _, g4, rfl⟩ (.nil)))))) h1 hb hd
theorem lop_build6 {T : TypeId} {k0 k1 k2 k3 k4 k5 : Nat} {x0 x1 x2 x3 x4 x5 : Operand} {s0 s1 s2 s3 s4 s5 : SV} {fs : List (Nat × Nat)} {z : List Value} {cs : List AC} (ho : o.op = .build T #[(k0, x0), (k1, x1), (k2, x2), (k3, x3), (k4, x4), (k5, x5)]) (hF : TF C.P T fs) (hz : TZ C.P T z) (g0 : σ.look x0 = .s s0) (g1 : σ.look x1 = .s s1) (g2 : σ.look x2 = .s s2) (g3 : σ.look x3 = .s s3) (g4 : σ.look x4 = .s s4) (g5 : σ.look x5 = .s s5) (h1 : z.all (·.oneCell') = true)
    (hb : bfill (fun i => fs[i]?) (z.map fun v => .p (.v v)) [(k0, s0.cells), (k1, s1.cells), (k2, s2.cells), (k3, s3.cells), (k4, s4.cells), (k5, s5.cells)] = some cs) (hd : dOk C o.dst = true) : LOp C o σ ⟨.a cs, []⟩ (fun _ => false) := lop_buildx ho hF hz (.cons ⟨rfl, _, g0, rfl⟩ (.cons ⟨rfl, _, g1, rfl⟩ (.cons ⟨rfl, _, g2, rfl⟩ (.cons ⟨rfl, _, g3, rfl⟩ (.cons ⟨rfl, _, g4, rfl⟩ (.cons ⟨rfl, _, g5, rfl⟩ (.nil))))))) h1 hb hd
theorem lop_build7 {T : TypeId} {k0 k1 k2 k3 k4 k5 k6 : Nat} {x0 x1 x2 x3 x4 x5 x6 : Operand} {s0 s1 s2 s3 s4 s5 s6 : SV} {fs : List (Nat × Nat)} {z : List Value} {cs : List AC} (ho : o.op = .build T #[(k0, x0), (k1, x1), (k2, x2), (k3, x3), (k4, x4), (k5, x5), (k6, x6)]) (hF : TF C.P T fs) (hz : TZ C.P T z) (g0 : σ.look x0 = .s s0) (g1 : σ.look x1 = .s s1) (g2 : σ.look x2 = .s s2) (g3 : σ.look x3 = .s s3) (g4 : σ.look x4 = .s s4) (g5 : σ.look x5 = .s s5) (g6 : σ.look x6 = .s s6) (h1 : z.all (·.oneCell') = true)
    (hb : bfill (fun i => fs[i]?) (z.map fun v => .p (.v v)) [(k0, s0.cells), (k1, s1.cells), (k2, s2.cells), (k3, s3.cells), (k4, s4.cells), (k5, s5.cells), (k6, s6.cells)] = some cs) (hd : dOk C o.dst = true) : LOp C o σ ⟨.a cs, []⟩ (fun _ => false) := lop_buildx ho hF hz (.cons ⟨rfl, _, g0, rfl⟩ (.cons ⟨rfl, _, g1, rfl⟩ (.cons ⟨rfl, _, g2, rfl⟩ (.cons ⟨rfl, _, g3, rfl⟩ (.cons ⟨rfl, _, g4, rfl⟩ (.cons ⟨rfl, _, g5, rfl⟩ (.cons ⟨rfl, _, g6, rfl⟩ (.nil)))))))) h1 hb hd
theorem lop_build8 {T : TypeId} {k0 k1 k2 k3 k4 k5 k6 k7 : Nat} {x0 x1 x2 x3 x4 x5 x6 x7 : Operand} {s0 s1 s2 s3 s4 s5 s6 s7 : SV} {fs : List (Nat × Nat)} {z : List Value} {cs : List AC} (ho : o.op = .build T #[(k0, x0), (k1, x1), (k2, x2), (k3, x3), (k4, x4), (k5, x5), (k6, x6), (k7, x7)]) (hF : TF C.P T fs) (hz : TZ C.P T z) (g0 : σ.look x0 = .s s0) (g1 : σ.look x1 = .s s1) (g2 : σ.look x2 = .s s2) (g3 : σ.look x3 = .s s3) (g4 : σ.look x4 = .s s4) (g5 : σ.look x5 = .s s5) (g6 : σ.look x6 = .s s6) (g7 : σ.look x7 = .s s7) (h1 : z.all (·.oneCell') = true)
    (hb : bfill (fun i => fs[i]?) (z.map fun v => .p (.v v)) [(k0, s0.cells), (k1, s1.cells), (k2, s2.cells), (k3, s3.cells), (k4, s4.cells), (k5, s5.cells), (k6, s6.cells), (k7, s7.cells)] = some cs) (hd : dOk C o.dst = true) : LOp C o σ ⟨.a cs, []⟩ (fun _ => false) := lop_buildx ho hF hz (.cons ⟨rfl, _, g0, rfl⟩ (.cons ⟨rfl, _, g1, rfl⟩ (.cons ⟨rfl, _, g2, rfl⟩ (.cons ⟨rfl, _, g3, rfl⟩ (.cons ⟨rfl, _, g4, rfl⟩ (.cons ⟨rfl, _, g5, rfl⟩ (.cons ⟨rfl, _, g6, rfl⟩ (.cons ⟨rfl, _, g7, rfl⟩ (.nil))))))))) h1 hb hd
theorem lop_build9 {T : TypeId} {k0 k1 k2 k3 k4 k5 k6 k7 k8 : Nat} {x0 x1 x2 x3 x4 x5 x6 x7 x8 : Operand} {s0 s1 s2 s3 s4 s5 s6 s7 s8 : SV} {fs : List (Nat × Nat)} {z : List Value} {cs : List AC} (ho : o.op = .build T #[(k0, x0), (k1, x1), (k2, x2), (k3, x3), (k4, x4), (k5, x5), (k6, x6), (k7, x7), (k8, x8)]) (hF : TF C.P T fs) (hz : TZ C.P T z) (g0 : σ.look x0 = .s s0) (g1 : σ.look x1 = .s s1) (g2 : σ.look x2 = .s s2) (g3 : σ.look x3 = .s s3) (g4 : σ.look x4 = .s s4) (g5 : σ.look x5 = .s s5) (g6 : σ.look x6 = .s s6) (g7 : σ.look x7 = .s s7) (g8 : σ.look x8 = .s s8) (h1 : z.all (·.oneCell') = true)
    (hb : bfill (fun i => fs[i]?) (z.map fun v => .p (.v v)) [(k0, s0.cells), (k1, s1.cells), (k2, s2.cells), (k3, s3.cells), (k4, s4.cells), (k5, s5.cells), (k6, s6.cells), (k7, s7.cells), (k8, s8.cells)] = some cs) (hd : dOk C o.dst = true) : LOp C o σ ⟨.a cs, []⟩ (fun _ => false) := lop_buildx ho hF hz (.cons ⟨rfl, _, g0, rfl⟩ (.cons ⟨rfl, _, g1, rfl⟩ (.cons ⟨rfl, _, g2, rfl⟩ (.cons ⟨rfl, _, g3, rfl⟩ (.cons ⟨rfl, _, g4, rfl⟩ (.cons ⟨rfl, _, g5, rfl⟩ (.cons ⟨rfl, _, g6, rfl⟩ (.cons ⟨rfl, _, g7, rfl⟩ (.cons ⟨rfl, _, g8, rfl⟩ (.nil)))))))))) h1 hb hd
theorem lop_move_o {x : Operand} {c : AC} (ho : o.op = .move x) (hx : σ.look x = .s (.one c)) (hd : dOk C o.dst = true) : LOp C o σ ⟨.s (.one c), []⟩ (fun _ => false) := lop_move ho hx hd
theorem lop_move_a {x : Operand} {c : List AC} (ho : o.op = .move x) (hx : σ.look x = .s (.agg c)) (hd : dOk C o.dst = true) : LOp C o σ ⟨.s (.agg c), []⟩ (fun _ => false) := lop_move ho hx hd
theorem lop_move_t {x : Operand} {c : List SV} (ho : o.op = .move x) (hx : σ.look x = .tup c) (hd : dOk C o.dst = true) : LOp C o σ ⟨.tup c, []⟩ (fun _ => false) := lop_move ho hx hd
theorem lop_move_u {x : Operand} (ho : o.op = .move x) (hd : dOk C o.dst = true) : LOp C o σ ⟨.un, []⟩ (fun _ => false) := lop_val hd fun τ a w G hl hm h => ⟨a.eval x, by simp [execOp, ho], trivial⟩
theorem lop_assign_o {x : Operand} {c : AC} (ho : o.op = .assign x) (hx : σ.look x = .s (.one c)) (hd : dOk C o.dst = true) : LOp C o σ ⟨.s (.one c), []⟩ (fun _ => false) := lop_assign ho hx hd
theorem lop_assign_a {x : Operand} {c : List AC} (ho : o.op = .assign x) (hx : σ.look x = .s (.agg c)) (hd : dOk C o.dst = true) : LOp C o σ ⟨.s (.agg c), []⟩ (fun _ => false) := lop_assign ho hx hd
theorem lop_pick_t' {c x y : Operand} {b : Bool} {q : AC} (ho : o.op = .pick c x y) (hc : σ.look c = .p (.v (.bool b))) (hb : b = true) (hx : σ.look x = .s (.one q)) (hd : dOk C o.dst = true) : LOp C o σ ⟨.s (.one q), []⟩ (fun _ => false) := lop_pick_t ho hc hb hx hd
theorem lop_pick_f' {c x y : Operand} {b : Bool} {q : AC} (ho : o.op = .pick c x y) (hc : σ.look c = .p (.v (.bool b))) (hb : b = false) (hx : σ.look y = .s (.one q)) (hd : dOk C o.dst = true) : LOp C o σ ⟨.s (.one q), []⟩ (fun _ => false) := lop_pick_f ho hc hb hx hd
theorem lop_extract_o {x : Operand} {ix : Nat} {vs : List SV} {c : AC} (ho : o.op = .extract x ix) (hx : σ.look x = .tup vs) (hs : vs[ix]? = some (.one c)) (hd : dOk C o.dst = true) : LOp C o σ ⟨.s (.one c), []⟩ (fun _ => false) := lop_extract ho hx hs hd
theorem lop_extract_a {x : Operand} {ix : Nat} {vs : List SV} {c : List AC} (ho : o.op = .extract x ix) (hx : σ.look x = .tup vs) (hs : vs[ix]? = some (.agg c)) (hd : dOk C o.dst = true) : LOp C o σ ⟨.s (.agg c), []⟩ (fun _ => false) := lop_extract ho hx hs hd
theorem lop_box_a {T : TypeId} {x : Operand} {d n : Nat} {mo0 : Option MO} {c : List AC} (ho : o.op = .box T x) (hdst : o.dst = some d) (hx : σ.look x = .s (.agg c)) (hm : σ.mem d = (n, mo0)) (hd : dOk C o.dst = true) :
    LOp C o σ ⟨.o (.ptr d n 0), [(d, (n + 1, some (.box T c)))]⟩ (fun y => y == d) := lop_box ho hdst hx hm hd
theorem lop_box_o {T : TypeId} {x : Operand} {d n : Nat} {mo0 : Option MO} {c : AC} (ho : o.op = .box T x) (hdst : o.dst = some d) (hx : σ.look x = .s (.one c)) (hm : σ.mem d = (n, mo0)) (hd : dOk C o.dst = true) :
    LOp C o σ ⟨.o (.ptr d n 0), [(d, (n + 1, some (.box T [c])))]⟩ (fun y => y == d) := lop_box ho hdst hx hm hd
theorem rb {x y : Bool} (h : x = y) : AV.p (.v (.bool x)) = .s (.one (.p (.v (.bool y)))) := by rw [h]
theorem ri {x y : Int} {k : IntKind} (h : x = y) : AV.p (.v (.int k x)) = .s (.one (.p (.v (.int k y)))) := by rw [h]

/-! in a region that draws -/
variable {W : List (Nat × Nat)} {i : Nat}
theorem rk_nil (h : K σ) : RunK C ops W i [] K σ := h
theorem rk_step (hg : o.guard = none) (hd : dOk C o.dst = true) (h : LOp C o σ e ro) (hro : ∀ x, ro x = true → okObj ops W i x = true) (hob : ∀ x m, (x, m) ∈ e.obj → (i, x) ∈ W) (hk : RunK C ops W (i + 1) rest K (e.app o.dst σ)) : RunK C ops W i (o :: rest) K σ :=
  ⟨e, .inl ⟨by unfold Guard; rw [hg], hd, ro, h, hro, hob⟩, hk⟩
/-- no object is written in the region -/
theorem rk_q {v : AV} (hg : o.guard = none) (hd : dOk C o.dst = true) (h : LOp C o σ ⟨v, []⟩ ro) (hk : RunK C ops [] (i + 1) rest K ((⟨v, []⟩ : Eff).app o.dst σ)) : RunK C ops [] i (o :: rest) K σ :=
  rk_step hg hd h (fun x _ => rfl) (fun x m hx => by cases hx) hk
theorem rk_gq {j t : Nat} {want b : Bool} {v : AV} (hg : o.guard = some (j, want)) (ht : (ops[j]?).bind (·.dst) = some t) (hv : σ.env t = .p (.v (.bool b))) (hb : b = want) (hd : dOk C o.dst = true) (h : LOp C o σ ⟨v, []⟩ ro) (hk : RunK C ops [] (i + 1) rest K ((⟨v, []⟩ : Eff).app o.dst σ)) : RunK C ops [] i (o :: rest) K σ :=
  ⟨_, .inl ⟨by unfold Guard; rw [hg]; exact ⟨t, b, ht, hv, by simp [hb]⟩, hd, ro, h, fun x _ => rfl, fun x m hx => by cases hx⟩, hk⟩
theorem rk_any {v : AV} {d : Nat} (hg : Guard ops σ o true) (hd' : o.dst = some d) (hd : dOk C o.dst = true) (h : LOp C o σ ⟨v, []⟩ ro) (hk : RunK C ops [] (i + 1) rest K ((⟨v, []⟩ : Eff).app (some d) σ)) : RunK C ops [] i (o :: rest) K σ := by
  rw [← hd'] at hk; exact ⟨_, .inl ⟨hg, hd, ro, h, fun x _ => rfl, fun x m hx => by cases hx⟩, hk⟩
theorem rk_gf {j t : Nat} {want b : Bool} (hg : o.guard = some (j, want)) (ht : (ops[j]?).bind (·.dst) = some t) (hv : σ.env t = .p (.v (.bool b))) {d : Nat} (hb : b = !want) (hdd : o.dst = some d) (hd : dOk C o.dst = true) (hk : RunK C ops W (i + 1) rest K (σ.set (some d) .un)) : RunK C ops W i (o :: rest) K σ := by
  rw [← hdd] at hk; exact ⟨⟨.un, []⟩, .inr ⟨by unfold Guard; rw [hg]; exact ⟨t, b, ht, hv, by cases want <;> simp [hb]⟩, hd, rfl⟩, hk⟩
theorem rk_split {j t : Nat} {want b : Bool} (hg : o.guard = some (j, want)) (ht : (ops[j]?).bind (·.dst) = some t) (hv : σ.env t = .p (.v (.bool b))) (h1 : b = true → RunK C ops W i (o :: rest) K σ) (h2 : b = false → RunK C ops W i (o :: rest) K σ) : RunK C ops W i (o :: rest) K σ := by
  cases b with
  | true => exact h1 rfl
  | false => exact h2 rfl
end steps

def ResL (P : Program) (fn : Func) (σ : St) (K : Nat → Bool) (r : AV) : Prop := ∃ l, r = resAV l ∧ All2 (Res P σ K) fn.results.toList l
theorem Ret.of {P : Program} {fn : Func} {r : AV} {σ : St} (h : ResL P fn σ kNone r) : Ret P fn r .ret σ := h
section rets
variable {P : Program} {fn : Func} {r : AV} {σ : St} {s s' u u' : SV} {t t' ty ty' ty1 o g n sz by_ : Nat} {k : TK} {cs ds : List AC} {K : Nat → Bool}
theorem res0 (hf : fn.results.toList = []) (hr : r = .tup []) : ResL P fn σ K r := ⟨[], hr, by rw [hf]; exact .nil⟩
theorem res1 {rv : ResultVar} (hf : fn.results.toList = [rv]) (hr : r = .s s) (h : Res P σ K rv s) : ResL P fn σ K r := ⟨[s], hr, by rw [hf]; exact .cons h .nil⟩
theorem res2 {rv rv' : ResultVar} (hf : fn.results.toList = [rv, rv']) (hr : r = .tup [s, s']) (h : Res P σ K rv s) (h' : Res P σ K rv' s') : ResL P fn σ K r := ⟨[s, s'], hr, by rw [hf]; exact .cons h (.cons h' .nil)⟩
/-- one result, in a slot -/
theorem ot1 (hf : fn.results.toList = [.tmp t]) (hv : σ.env t = .s s) (hs : FinS σ K s s') (hr : r = .s s') : ResL P fn σ K r := res1 hf hr (.tmp hv hs)
/-- one result, in a variable -/
theorem oc1 [hT : TI P ty k sz by_] (hf : fn.results.toList = [.cell t ty]) (hv : σ.env t = .o (.ptr o g 0)) (hm : σ.mem o = (n, some (.box ty1 cs))) (hn : n = g + 1) (hk : k.agg = true) (hl : cs.length = sz) (hs : All2 (FinC σ K) cs ds) (hr : r = .a ds) : ResL P fn σ K r := by
  subst hn; exact res1 hf hr (.cell hv hm hT hk hl hs)
theorem ot2 (hf : fn.results.toList = [.tmp t, .tmp t']) (hv : σ.env t = .s s) (hs : FinS σ K s s') (hv' : σ.env t' = .s u) (hs' : FinS σ K u u') (hr : r = .tup [s', u']) : ResL P fn σ K r := res2 hf hr (.tmp hv hs) (.tmp hv' hs')
theorem oc2 [hT : TI P ty k sz by_] (hf : fn.results.toList = [.cell t ty, .tmp t']) (hv : σ.env t = .o (.ptr o g 0)) (hm : σ.mem o = (n, some (.box ty1 cs))) (hn : n = g + 1) (hk : k.agg = true) (hl : cs.length = sz) (hs : All2 (FinC σ K) cs ds) (hv' : σ.env t' = .s u) (hs' : FinS σ K u u') (hr : r = .tup [.agg ds, u']) : ResL P fn σ K r := by
  subst hn; exact res2 hf hr (.cell hv hm hT hk hl hs) (.tmp hv' hs')
theorem rt1 (hf : fn.results.toList = [.tmp t]) (hv : σ.env t = .s s) (hs : FinS σ kNone s s') (hr : r = .s s') : Ret P fn r .ret σ := ot1 hf hv hs hr
theorem rc1 [hT : TI P ty k sz by_] (hf : fn.results.toList = [.cell t ty]) (hv : σ.env t = .o (.ptr o g 0)) (hm : σ.mem o = (n, some (.box ty1 cs))) (hn : n = g + 1) (hk : k.agg = true) (hl : cs.length = sz) (hs : All2 (FinC σ kNone) cs ds) (hr : r = .a ds) : Ret P fn r .ret σ := oc1 hf hv hm hn hk hl hs hr
theorem rt2 (hf : fn.results.toList = [.tmp t, .tmp t']) (hv : σ.env t = .s s) (hs : FinS σ kNone s s') (hv' : σ.env t' = .s u) (hs' : FinS σ kNone u u') (hr : r = .tup [s', u']) : Ret P fn r .ret σ := ot2 hf hv hs hv' hs' hr
theorem rc2 [hT : TI P ty k sz by_] (hf : fn.results.toList = [.cell t ty, .tmp t']) (hv : σ.env t = .o (.ptr o g 0)) (hm : σ.mem o = (n, some (.box ty1 cs))) (hn : n = g + 1) (hk : k.agg = true) (hl : cs.length = sz) (hs : All2 (FinC σ kNone) cs ds) (hv' : σ.env t' = .s u) (hs' : FinS σ kNone u u') (hr : r = .tup [.agg ds, u']) : Ret P fn r .ret σ := oc2 hf hv hm hn hk hl hs hv' hs' hr
end rets
theorem finL_p {σ : St} {K : Nat → Bool} : ∀ {cs : List AC} [h : PureL cs], All2 (FinC σ K) cs cs := by
  intro cs h
  refine ⟨rfl, fun i a b ha hb => ?_⟩
  rw [ha] at hb; obtain rfl := Option.some.inj hb
  have := h.pure a (List.mem_of_getElem? ha)
  cases a <;> simp [AC.isP] at this
  exact .p
theorem finS_p {σ : St} {x : PVal} {K : Nat → Bool} : FinS σ K (.one (.p x)) (.one (.p x)) := .one .p

/-! ### Objects that are lent -/
def memL : List (Nat × (Nat × Option MO)) → Nat → Nat × Option MO
  | [], _ => (0, none)
  | (k, m) :: l, o => if o = k then m else memL l o
def kIn : List (Nat × (Nat × Option MO)) → Nat → Bool
  | [], _ => false
  | (k, _) :: l, o => Nat.beq o k || kIn l o
def FinMs (σ : St) (K : Nat → Bool) : List (Nat × (Nat × Option MO)) → Prop
  | [] => True
  | p :: l => FinM σ K (σ.mem p.1) p.2 ∧ FinMs σ K l
theorem RetO.mk {P : Program} {fn : Func} {r : AV} {σ : St} {l : List (Nat × (Nat × Option MO))} (h : ResL P fn σ (kIn l) r) (hm : FinMs σ (kIn l) l) : RetO P fn r (kIn l) (memL l) .ret σ := by
  refine ⟨h, ?_, ?_⟩
  · have key : ∀ (K : Nat → Bool) (l : List (Nat × (Nat × Option MO))), FinMs σ K l → ∀ o, kIn l o = true → FinM σ K (σ.mem o) (memL l o) := by
      intro K l
      induction l with
      | nil => intro _ o ho; cases ho
      | cons p l ih =>
        obtain ⟨k, m⟩ := p
        intro hl o ho
        by_cases hk : o = k
        · subst hk; simp only [memL, if_true]; exact hl.1
        · simp only [memL, hk, if_false]
          refine ih hl.2 o ?_
          simp only [kIn, Bool.or_eq_true] at ho
          exact ho.resolve_left fun h => hk (Nat.eq_of_beq_eq_true h)
    exact key _ l hm
  · intro o ho
    induction l with
    | nil => rfl
    | cons p l ih =>
      obtain ⟨k, m⟩ := p
      simp only [kIn, Bool.or_eq_false_iff] at ho
      have hk : o ≠ k := fun e => by rw [e] at ho; simp at ho
      simp only [memL, hk, if_false]
      have key : ∀ (l : List (Nat × (Nat × Option MO))), kIn l o = false → memL l o = (0, none) := by
        intro l
        induction l with
        | nil => intro _; rfl
        | cons p l ih =>
          obtain ⟨k, m⟩ := p
          intro ho
          simp only [kIn, Bool.or_eq_false_iff] at ho
          have hk : o ≠ k := fun e => by rw [e] at ho; simp at ho
          simp only [memL, hk, if_false]; exact ih ho.2
      exact key l ho.2
end Go.Aw
