/- The layer's texts CoreG, CoreH, CoreI, CoreJ, one behind the other. -/
import Derived.Test.YtpgppgehhclfoaaGreatOBA01
/- THE ABSTRACT WALK, part 7: the steps in the form in which walks take them; contracts as instances. -/
namespace Go.Aw
open Go Go.RowKit
set_option linter.unusedVariables false
set_option linter.unusedSimpArgs false
class PC (P:Program) (f:FuncId) (args:List AV) (pre:outParam Prop) (r:outParam AV):Prop where
  call:pre→PCall P f args r
class PureAV (a:AV):Prop where
  pure:Ent a a
instance {x:PVal}:PureAV (.p x):=⟨Ent.p⟩
class PureL (cs:List AC):Prop where
  pure:∀ c∈cs,c.isP=true
instance:PureL []:=⟨by simp⟩
instance {x:PVal} {cs:List AC} [h:PureL cs]:PureL (.p x::cs):=⟨by intro c hc;simp at hc;rcases hc with rfl|hc;rfl;exact h.pure c hc⟩
instance {α:Type} {l:List α} {f:α→PVal}:PureL (l.map fun x=>.p (f x)):=⟨by intro c hc;simp at hc;obtain ⟨x,_,rfl⟩:=hc;rfl⟩
instance {cs ds:List AC} [h:PureL cs] [k:PureL ds]:PureL (cs++ds):=⟨by intro c hc;simp at hc;rcases hc with hc|hc;exact h.pure c hc;exact k.pure c hc⟩
instance {cs:List AC} [h:PureL cs]:PureAV (.a cs):=⟨Ent.agg h.pure⟩
class PureAVs (l:List AV):Prop where
  pure:All2 Ent l l
instance:PureAVs []:=⟨.nil⟩
instance {a:AV} {l:List AV} [h:PureAV a] [k:PureAVs l]:PureAVs (a::l):=⟨.cons h.pure k.pure⟩
section steps
variable {C:Ctx} {ops:Array Oper} {o:Oper} {rest:List Oper} {K:St→Prop} {σ:St} {e:Eff} {ro:Nat→Bool}
theorem rn_nil (h:K σ):RunN C ops [] K σ:=h
theorem rn_gf {j t:Nat} {want b:Bool} (hg:o.guard=some (j,want)) (ht:(ops[j]?).bind (·.dst)=some t) (hv:σ.env t=.p (.v (.bool b))) {d:Nat} (hb:b=!want) (hdd:o.dst=some d) (hd:dOk C o.dst=true) (hk:RunN C ops rest K (σ.set (some d) (.tup []))):RunN C ops (o::rest) K σ:=by
  rw [← hdd] at hk;exact .inr ⟨by unfold Guard;rw [hg];exact ⟨t,ht,.inl ⟨b,hv,by cases want<;>simp [hb]⟩⟩,hd,hk⟩
theorem rn_gu {j t:Nat} {want:Bool} {d:Nat} (hg:o.guard=some (j,want)) (ht:(ops[j]?).bind (·.dst)=some t) (hv:σ.env t=.tup []) (hdd:o.dst=some d) (hd:dOk C o.dst=true) (hk:RunN C ops rest K (σ.set (some d) (.tup []))):RunN C ops (o::rest) K σ:=by
  rw [← hdd] at hk;exact .inr ⟨by unfold Guard;rw [hg];exact ⟨t,ht,.inr ⟨hv,rfl⟩⟩,hd,hk⟩
theorem rn_split {j t:Nat} {want b:Bool} (hg:o.guard=some (j,want)) (ht:(ops[j]?).bind (·.dst)=some t) (hv:σ.env t=.p (.v (.bool b))) (h1:b=true→RunN C ops (o::rest) K σ) (h2:b=false→RunN C ops (o::rest) K σ):RunN C ops (o::rest) K σ:=by
  cases b with
  | true=>exact h1 rfl
  | false=>exact h2 rfl
theorem aws_nil {Q:Exit→St→Prop} (h:Q .normal σ):AWs C [] Q σ:=h
theorem aws_blk_s {x y:Code} {k:List Code} {Q:Exit→St→Prop} {id:Nat} (h:AWs C [x,y] (blk id (AWs C k Q) Q) σ):AWs C (.block id (.seq x y)::k) Q σ:=aws_block (aws_seq h)
theorem aws_blk_r {i:Nat} {l:Array Oper} {b:Bool} {k:List Code} {Q:Exit→St→Prop} {id:Nat} (h:AWs C [.region i l b] (blk id (AWs C k Q) Q) σ):AWs C (.block id (.region i l b)::k) Q σ:=aws_block h
theorem aws_blk_c {x y:Code} {o:Operand} {k:List Code} {Q:Exit→St→Prop} {id:Nat} (h:AWs C [.cond o x y] (blk id (AWs C k Q) Q) σ):AWs C (.block id (.cond o x y)::k) Q σ:=aws_block h
theorem aws_if {cd:Operand} {x y:Code} {k:List Code} {Q:Exit→St→Prop} {b:Bool} (hv:σ.look cd=.p (.v (.bool b))) (h1:b=true→AWs C (x::k) Q σ) (h2:b=false→AWs C (y::k) Q σ):AWs C (.cond cd x y::k) Q σ:=
  aws_cond (fun G a w h=>val_of h hv) h1 h2
theorem aws_if_t {cd:Operand} {x y:Code} {k:List Code} {Q:Exit→St→Prop} {b:Bool} (hv:σ.look cd=.p (.v (.bool b))) (hb:b=true) (h1:AWs C (x::k) Q σ):AWs C (.cond cd x y::k) Q σ:=
  aws_if hv (fun _=>h1) (fun h=>by rw [hb] at h;cases h)
theorem aws_if_f {cd:Operand} {x y:Code} {k:List Code} {Q:Exit→St→Prop} {b:Bool} (hv:σ.look cd=.p (.v (.bool b))) (hb:b=false) (h1:AWs C (y::k) Q σ):AWs C (.cond cd x y::k) Q σ:=
  aws_if hv (fun h=>by rw [hb] at h;cases h) (fun _=>h1)
theorem gd_n {r:Bool} (hg:o.guard=none) (hr:r=true):Guard ops σ o r:=by unfold Guard;rw [hg];exact hr
theorem gd_t {j t:Nat} {want b:Bool} (hg:o.guard=some (j,want)) (ht:(ops[j]?).bind (·.dst)=some t) (hv:σ.env t=.p (.v (.bool b))) (hb:b=want):Guard ops σ o true:=by
  unfold Guard;rw [hg];exact ⟨t,ht,.inl ⟨b,hv,by simp [hb]⟩⟩
theorem rn_any {d:Nat} (hg:Guard ops σ o true) (hd:o.dst=some d) (h:LOp C o σ e ro) (hk:RunN C ops rest K (e.app (some d) σ)):RunN C ops (o::rest) K σ:=by rw [← hd] at hk;exact .inl ⟨hg,_,h.ok,hk⟩
theorem rn_sto (hg:Guard ops σ o true) (hd:o.dst=none) (h:LOp C o σ e ro) (hk:RunN C ops rest K (e.app none σ)):RunN C ops (o::rest) K σ:=by rw [← hd] at hk;exact .inl ⟨hg,_,h.ok,hk⟩
theorem lk_o {x:Operand} {c:AC} (h:σ.look x=.s (.one c)):σ.look x=.s (.one c):=h
theorem lk_a {x:Operand} {c:List AC} (h:σ.look x=.s (.agg c)):σ.look x=.s (.agg c):=h
theorem lop_calln {f:FuncId} {as:Array Operand} {ts:Array TypeId} {args:List AV} {r:AV} {pre:Prop} (ho:o.op=.call ⟨.value (.func f),as,ts⟩) (hfn:FnT C.P f) (ha:All2 (fun x a=>σ.look x=a) as.toList args) (hp:PureAVs args) (hc:PC C.P f args pre r) (hpre:pre) (hd:dOk C o.dst=true) :
    LOp C o σ ⟨r,[]⟩ (fun _=>false):=by
  refine lop_call ho (args:=args) ?_ (hc.call hpre) hd
  refine ⟨by simp [ha.1],fun i a b h1 h2=>?_⟩
  rw [List.getElem?_map] at h1
  cases hx:as.toList[i]? with
  | none=>rw [hx] at h1;cases h1
  | some x=>
    rw [hx] at h1;simp at h1;subst h1
    rw [ha.2 i x b hx h2]
    exact hp.pure.2 i b b h2 h2
theorem lop_buildx {T:TypeId} {parts:Array (Nat × Operand)} {fs:List (Nat × Nat)} {z:List Value} {ps:List (Nat × List AC)} {cs:List AC} (ho:o.op=.build T parts) (hF:TF C.P T fs) (hz:TZ C.P T z)
    (hp:All2 (fun (x:Nat × Operand) (p:Nat × List AC)=>x.1=p.1∧∃ s,σ.look x.2=.s s∧s.cells=p.2) parts.toList ps) (h1:z.all (·.oneCell')=true)
    (hb:bfill (fun i=>fs[i]?) (z.map fun v=>.p (.v v)) ps=some cs) (hd:dOk C o.dst=true):LOp C o σ ⟨.a cs,[]⟩ (fun _=>false):=lop_build ho hp h1 hb hd
theorem lk_a1 {x:Operand} {c0:AC} (h:σ.look x=.s (.agg [c0])):σ.look x=.s (.agg [c0]):=h
theorem lk_a2 {x:Operand} {c0 c1:AC} (h:σ.look x=.s (.agg [c0,c1])):σ.look x=.s (.agg [c0,c1]):=h
theorem lk_a3 {x:Operand} {c0 c1 c2:AC} (h:σ.look x=.s (.agg [c0,c1,c2])):σ.look x=.s (.agg [c0,c1,c2]):=h
theorem lk_a4 {x:Operand} {c0 c1 c2 c3:AC} (h:σ.look x=.s (.agg [c0,c1,c2,c3])):σ.look x=.s (.agg [c0,c1,c2,c3]):=h
theorem lk_a5 {x:Operand} {c0 c1 c2 c3 c4:AC} (h:σ.look x=.s (.agg [c0,c1,c2,c3,c4])):σ.look x=.s (.agg [c0,c1,c2,c3,c4]):=h
theorem lk_a6 {x:Operand} {c0 c1 c2 c3 c4 c5:AC} (h:σ.look x=.s (.agg [c0,c1,c2,c3,c4,c5])):σ.look x=.s (.agg [c0,c1,c2,c3,c4,c5]):=h
theorem lk_a7 {x:Operand} {c0 c1 c2 c3 c4 c5 c6:AC} (h:σ.look x=.s (.agg [c0,c1,c2,c3,c4,c5,c6])):σ.look x=.s (.agg [c0,c1,c2,c3,c4,c5,c6]):=h
theorem lk_a8 {x:Operand} {c0 c1 c2 c3 c4 c5 c6 c7:AC} (h:σ.look x=.s (.agg [c0,c1,c2,c3,c4,c5,c6,c7])):σ.look x=.s (.agg [c0,c1,c2,c3,c4,c5,c6,c7]):=h
theorem ln1 {x:List AC} {c0:AC} (h:x=[c0]):x=[c0]:=h
theorem sn1 {x:Option (List AC)} {c0:AC} (h:x=some [c0]):x=some [c0]:=h
theorem ln2 {x:List AC} {c0 c1:AC} (h:x=[c0,c1]):x=[c0,c1]:=h
theorem sn2 {x:Option (List AC)} {c0 c1:AC} (h:x=some [c0,c1]):x=some [c0,c1]:=h
theorem ln3 {x:List AC} {c0 c1 c2:AC} (h:x=[c0,c1,c2]):x=[c0,c1,c2]:=h
theorem sn3 {x:Option (List AC)} {c0 c1 c2:AC} (h:x=some [c0,c1,c2]):x=some [c0,c1,c2]:=h
theorem ln4 {x:List AC} {c0 c1 c2 c3:AC} (h:x=[c0,c1,c2,c3]):x=[c0,c1,c2,c3]:=h
theorem sn4 {x:Option (List AC)} {c0 c1 c2 c3:AC} (h:x=some [c0,c1,c2,c3]):x=some [c0,c1,c2,c3]:=h
theorem ln5 {x:List AC} {c0 c1 c2 c3 c4:AC} (h:x=[c0,c1,c2,c3,c4]):x=[c0,c1,c2,c3,c4]:=h
theorem sn5 {x:Option (List AC)} {c0 c1 c2 c3 c4:AC} (h:x=some [c0,c1,c2,c3,c4]):x=some [c0,c1,c2,c3,c4]:=h
theorem ln6 {x:List AC} {c0 c1 c2 c3 c4 c5:AC} (h:x=[c0,c1,c2,c3,c4,c5]):x=[c0,c1,c2,c3,c4,c5]:=h
theorem sn6 {x:Option (List AC)} {c0 c1 c2 c3 c4 c5:AC} (h:x=some [c0,c1,c2,c3,c4,c5]):x=some [c0,c1,c2,c3,c4,c5]:=h
theorem ln7 {x:List AC} {c0 c1 c2 c3 c4 c5 c6:AC} (h:x=[c0,c1,c2,c3,c4,c5,c6]):x=[c0,c1,c2,c3,c4,c5,c6]:=h
theorem sn7 {x:Option (List AC)} {c0 c1 c2 c3 c4 c5 c6:AC} (h:x=some [c0,c1,c2,c3,c4,c5,c6]):x=some [c0,c1,c2,c3,c4,c5,c6]:=h
theorem ln8 {x:List AC} {c0 c1 c2 c3 c4 c5 c6 c7:AC} (h:x=[c0,c1,c2,c3,c4,c5,c6,c7]):x=[c0,c1,c2,c3,c4,c5,c6,c7]:=h
theorem sn8 {x:Option (List AC)} {c0 c1 c2 c3 c4 c5 c6 c7:AC} (h:x=some [c0,c1,c2,c3,c4,c5,c6,c7]):x=some [c0,c1,c2,c3,c4,c5,c6,c7]:=h
theorem ln9 {x:List AC} {c0 c1 c2 c3 c4 c5 c6 c7 c8:AC} (h:x=[c0,c1,c2,c3,c4,c5,c6,c7,c8]):x=[c0,c1,c2,c3,c4,c5,c6,c7,c8]:=h
theorem sn9 {x:Option (List AC)} {c0 c1 c2 c3 c4 c5 c6 c7 c8:AC} (h:x=some [c0,c1,c2,c3,c4,c5,c6,c7,c8]):x=some [c0,c1,c2,c3,c4,c5,c6,c7,c8]:=h
theorem ln10 {x:List AC} {c0 c1 c2 c3 c4 c5 c6 c7 c8 c9:AC} (h:x=[c0,c1,c2,c3,c4,c5,c6,c7,c8,c9]):x=[c0,c1,c2,c3,c4,c5,c6,c7,c8,c9]:=h
theorem sn10 {x:Option (List AC)} {c0 c1 c2 c3 c4 c5 c6 c7 c8 c9:AC} (h:x=some [c0,c1,c2,c3,c4,c5,c6,c7,c8,c9]):x=some [c0,c1,c2,c3,c4,c5,c6,c7,c8,c9]:=h
theorem ln11 {x:List AC} {c0 c1 c2 c3 c4 c5 c6 c7 c8 c9 c10:AC} (h:x=[c0,c1,c2,c3,c4,c5,c6,c7,c8,c9,c10]):x=[c0,c1,c2,c3,c4,c5,c6,c7,c8,c9,c10]:=h
theorem sn11 {x:Option (List AC)} {c0 c1 c2 c3 c4 c5 c6 c7 c8 c9 c10:AC} (h:x=some [c0,c1,c2,c3,c4,c5,c6,c7,c8,c9,c10]):x=some [c0,c1,c2,c3,c4,c5,c6,c7,c8,c9,c10]:=h
theorem ln12 {x:List AC} {c0 c1 c2 c3 c4 c5 c6 c7 c8 c9 c10 c11:AC} (h:x=[c0,c1,c2,c3,c4,c5,c6,c7,c8,c9,c10,c11]):x=[c0,c1,c2,c3,c4,c5,c6,c7,c8,c9,c10,c11]:=h
theorem sn12 {x:Option (List AC)} {c0 c1 c2 c3 c4 c5 c6 c7 c8 c9 c10 c11:AC} (h:x=some [c0,c1,c2,c3,c4,c5,c6,c7,c8,c9,c10,c11]):x=some [c0,c1,c2,c3,c4,c5,c6,c7,c8,c9,c10,c11]:=h
theorem lop_store_x {T:TypeId} {x y:Operand} {k:TK} {sz by_:Nat} {ob g off n:Nat} {ty:TypeId} {cs ds:List AC} {c:AC} (ho:o.op=.store T x y) (hT:TI C.P T k sz by_) (hdst:o.dst=none) (hx:σ.look x=.o (.ptr ob g off)) (hy:σ.look y=.o c)
    (hm:σ.mem ob=(n,some (.box ty cs))) (hn:n=g+1) (hs:sz=1) (hl:off < cs.length) (hds:cs.set off c=ds) :
    LOp C o σ ⟨.un,[(ob,(n,some (.box ty ds)))]⟩ (fun z=>z == ob):=by subst hds;exact lop_store_one ho hdst hx hy hm hn hl hs
theorem lop_call0 {f:FuncId} {ts:Array TypeId} { r:AV} {pre:Prop} (ho:o.op=.call ⟨.value (.func f),#[],ts⟩) (hfn:FnT C.P f)  (hp:PureAVs []) (hc:PC C.P f [] pre r) (hpre:pre) (hd:dOk C o.dst=true) :
    LOp C o σ ⟨r,[]⟩ (fun _=>false):=lop_calln ho hfn (.nil) hp hc hpre hd
theorem lop_call1 {f:FuncId} {x0:Operand} {ts:Array TypeId} {a0 r:AV} {pre:Prop} (ho:o.op=.call ⟨.value (.func f),#[x0],ts⟩) (hfn:FnT C.P f) (h0:σ.look x0=a0) (hp:PureAVs [a0]) (hc:PC C.P f [a0] pre r) (hpre:pre) (hd:dOk C o.dst=true) :
    LOp C o σ ⟨r,[]⟩ (fun _=>false):=lop_calln ho hfn (.cons h0 (.nil)) hp hc hpre hd
theorem lop_call2 {f:FuncId} {x0 x1:Operand} {ts:Array TypeId} {a0 a1 r:AV} {pre:Prop} (ho:o.op=.call ⟨.value (.func f),#[x0,x1],ts⟩) (hfn:FnT C.P f) (h0:σ.look x0=a0) (h1:σ.look x1=a1) (hp:PureAVs [a0,a1]) (hc:PC C.P f [a0,a1] pre r) (hpre:pre) (hd:dOk C o.dst=true) :
    LOp C o σ ⟨r,[]⟩ (fun _=>false):=lop_calln ho hfn (.cons h0 (.cons h1 (.nil))) hp hc hpre hd
theorem lop_call3 {f:FuncId} {x0 x1 x2:Operand} {ts:Array TypeId} {a0 a1 a2 r:AV} {pre:Prop} (ho:o.op=.call ⟨.value (.func f),#[x0,x1,x2],ts⟩) (hfn:FnT C.P f) (h0:σ.look x0=a0) (h1:σ.look x1=a1) (h2:σ.look x2=a2) (hp:PureAVs [a0,a1,a2]) (hc:PC C.P f [a0,a1,a2] pre r) (hpre:pre) (hd:dOk C o.dst=true) :
    LOp C o σ ⟨r,[]⟩ (fun _=>false):=lop_calln ho hfn (.cons h0 (.cons h1 (.cons h2 (.nil)))) hp hc hpre hd
theorem lop_call4 {f:FuncId} {x0 x1 x2 x3:Operand} {ts:Array TypeId} {a0 a1 a2 a3 r:AV} {pre:Prop} (ho:o.op=.call ⟨.value (.func f),#[x0,x1,x2,x3],ts⟩) (hfn:FnT C.P f) (h0:σ.look x0=a0) (h1:σ.look x1=a1) (h2:σ.look x2=a2) (h3:σ.look x3=a3) (hp:PureAVs [a0,a1,a2,a3]) (hc:PC C.P f [a0,a1,a2,a3] pre r) (hpre:pre) (hd:dOk C o.dst=true) :
    LOp C o σ ⟨r,[]⟩ (fun _=>false):=lop_calln ho hfn (.cons h0 (.cons h1 (.cons h2 (.cons h3 (.nil))))) hp hc hpre hd
theorem lop_build0 {T:TypeId} {fs:List (Nat × Nat)} {z:List Value} {cs:List AC} (ho:o.op=.build T #[]) (hF:TF C.P T fs) (hz:TZ C.P T z)  (h1:z.all (·.oneCell')=true)
    (hb:bfill (fun i=>fs[i]?) (z.map fun v=>.p (.v v)) []=some cs) (hd:dOk C o.dst=true):LOp C o σ ⟨.a cs,[]⟩ (fun _=>false):=lop_buildx ho hF hz (.nil) h1 hb hd
theorem lop_build1 {T:TypeId} {k0:Nat} {x0:Operand} {s0:SV} {fs:List (Nat × Nat)} {z:List Value} {cs:List AC} (ho:o.op=.build T #[(k0,x0)]) (hF:TF C.P T fs) (hz:TZ C.P T z) (g0:σ.look x0=.s s0) (h1:z.all (·.oneCell')=true)
    (hb:bfill (fun i=>fs[i]?) (z.map fun v=>.p (.v v)) [(k0,s0.cells)]=some cs) (hd:dOk C o.dst=true):LOp C o σ ⟨.a cs,[]⟩ (fun _=>false):=lop_buildx ho hF hz (.cons ⟨rfl,_,g0,rfl⟩ (.nil)) h1 hb hd
theorem lop_build2 {T:TypeId} {k0 k1:Nat} {x0 x1:Operand} {s0 s1:SV} {fs:List (Nat × Nat)} {z:List Value} {cs:List AC} (ho:o.op=.build T #[(k0,x0),(k1,x1)]) (hF:TF C.P T fs) (hz:TZ C.P T z) (g0:σ.look x0=.s s0) (g1:σ.look x1=.s s1) (h1:z.all (·.oneCell')=true)
    (hb:bfill (fun i=>fs[i]?) (z.map fun v=>.p (.v v)) [(k0,s0.cells),(k1,s1.cells)]=some cs) (hd:dOk C o.dst=true):LOp C o σ ⟨.a cs,[]⟩ (fun _=>false):=lop_buildx ho hF hz (.cons ⟨rfl,_,g0,rfl⟩ (.cons ⟨rfl,_,g1,rfl⟩ (.nil))) h1 hb hd
theorem lop_build3 {T:TypeId} {k0 k1 k2:Nat} {x0 x1 x2:Operand} {s0 s1 s2:SV} {fs:List (Nat × Nat)} {z:List Value} {cs:List AC} (ho:o.op=.build T #[(k0,x0),(k1,x1),(k2,x2)]) (hF:TF C.P T fs) (hz:TZ C.P T z) (g0:σ.look x0=.s s0) (g1:σ.look x1=.s s1) (g2:σ.look x2=.s s2) (h1:z.all (·.oneCell')=true)
    (hb:bfill (fun i=>fs[i]?) (z.map fun v=>.p (.v v)) [(k0,s0.cells),(k1,s1.cells),(k2,s2.cells)]=some cs) (hd:dOk C o.dst=true):LOp C o σ ⟨.a cs,[]⟩ (fun _=>false):=lop_buildx ho hF hz (.cons ⟨rfl,_,g0,rfl⟩ (.cons ⟨rfl,_,g1,rfl⟩ (.cons ⟨rfl,_,g2,rfl⟩ (.nil)))) h1 hb hd
theorem lop_build4 {T:TypeId} {k0 k1 k2 k3:Nat} {x0 x1 x2 x3:Operand} {s0 s1 s2 s3:SV} {fs:List (Nat × Nat)} {z:List Value} {cs:List AC} (ho:o.op=.build T #[(k0,x0),(k1,x1),(k2,x2),(k3,x3)]) (hF:TF C.P T fs) (hz:TZ C.P T z) (g0:σ.look x0=.s s0) (g1:σ.look x1=.s s1) (g2:σ.look x2=.s s2) (g3:σ.look x3=.s s3) (h1:z.all (·.oneCell')=true)
    (hb:bfill (fun i=>fs[i]?) (z.map fun v=>.p (.v v)) [(k0,s0.cells),(k1,s1.cells),(k2,s2.cells),(k3,s3.cells)]=some cs) (hd:dOk C o.dst=true):LOp C o σ ⟨.a cs,[]⟩ (fun _=>false):=lop_buildx ho hF hz (.cons ⟨rfl,_,g0,rfl⟩ (.cons ⟨rfl,_,g1,rfl⟩ (.cons ⟨rfl,_,g2,rfl⟩ (.cons ⟨rfl,_,g3,rfl⟩ (.nil))))) h1 hb hd
theorem lop_build5 {T:TypeId} {k0 k1 k2 k3 k4:Nat} {x0 x1 x2 x3 x4:Operand} {s0 s1 s2 s3 s4:SV} {fs:List (Nat × Nat)} {z:List Value} {cs:List AC} (ho:o.op=.build T #[(k0,x0),(k1,x1),(k2,x2),(k3,x3),(k4,x4)]) (hF:TF C.P T fs) (hz:TZ C.P T z) (g0:σ.look x0=.s s0) (g1:σ.look x1=.s s1) (g2:σ.look x2=.s s2) (g3:σ.look x3=.s s3) (g4:σ.look x4=.s s4) (h1:z.all (·.oneCell')=true)
    (hb:bfill (fun i=>fs[i]?) (z.map fun v=>.p (.v v)) [(k0,s0.cells),(k1,s1.cells),(k2,s2.cells),(k3,s3.cells),(k4,s4.cells)]=some cs) (hd:dOk C o.dst=true):LOp C o σ ⟨.a cs,[]⟩ (fun _=>false):=lop_buildx ho hF hz (.cons ⟨rfl,_,g0,rfl⟩ (.cons ⟨rfl,_,g1,rfl⟩ (.cons ⟨rfl,_,g2,rfl⟩ (.cons ⟨rfl,_,g3,rfl⟩ (.cons ⟨rfl,_,g4,rfl⟩ (.nil)))))) h1 hb hd
theorem lop_move_o {x:Operand} {c:AC} (ho:o.op=.move x) (hx:σ.look x=.s (.one c)) (hd:dOk C o.dst=true):LOp C o σ ⟨.s (.one c),[]⟩ (fun _=>false):=lop_move ho hx hd
theorem lop_move_a {x:Operand} {c:List AC} (ho:o.op=.move x) (hx:σ.look x=.s (.agg c)) (hd:dOk C o.dst=true):LOp C o σ ⟨.s (.agg c),[]⟩ (fun _=>false):=lop_move ho hx hd
theorem lop_move_t {x:Operand} {c:List SV} (ho:o.op=.move x) (hx:σ.look x=.tup c) (hd:dOk C o.dst=true):LOp C o σ ⟨.tup c,[]⟩ (fun _=>false):=lop_move ho hx hd
theorem lop_move_u {x:Operand} (ho:o.op=.move x) (hd:dOk C o.dst=true):LOp C o σ ⟨.un,[]⟩ (fun _=>false):=lop_val hd fun τ a w G hl hm h=>⟨a.eval x,by simp [execOp,ho],trivial⟩
theorem lop_assign_o {x:Operand} {c:AC} (ho:o.op=.assign x) (hx:σ.look x=.s (.one c)) (hd:dOk C o.dst=true):LOp C o σ ⟨.s (.one c),[]⟩ (fun _=>false):=lop_assign ho hx hd
theorem lop_assign_a {x:Operand} {c:List AC} (ho:o.op=.assign x) (hx:σ.look x=.s (.agg c)) (hd:dOk C o.dst=true):LOp C o σ ⟨.s (.agg c),[]⟩ (fun _=>false):=lop_assign ho hx hd
theorem lop_pick_t' {c x y:Operand} {b:Bool} {q:AC} (ho:o.op=.pick c x y) (hc:σ.look c=.p (.v (.bool b))) (hb:b=true) (hx:σ.look x=.s (.one q)) (hd:dOk C o.dst=true):LOp C o σ ⟨.s (.one q),[]⟩ (fun _=>false):=lop_pick_t ho hc hb hx hd
theorem lop_pick_f' {c x y:Operand} {b:Bool} {q:AC} (ho:o.op=.pick c x y) (hc:σ.look c=.p (.v (.bool b))) (hb:b=false) (hx:σ.look y=.s (.one q)) (hd:dOk C o.dst=true):LOp C o σ ⟨.s (.one q),[]⟩ (fun _=>false):=lop_pick_f ho hc hb hx hd
theorem lop_extract_o {x:Operand} {ix:Nat} {vs:List SV} {c:AC} (ho:o.op=.extract x ix) (hx:σ.look x=.tup vs) (hs:vs[ix]?=some (.one c)) (hd:dOk C o.dst=true):LOp C o σ ⟨.s (.one c),[]⟩ (fun _=>false):=lop_extract ho hx hs hd
theorem lop_extract_a {x:Operand} {ix:Nat} {vs:List SV} {c:List AC} (ho:o.op=.extract x ix) (hx:σ.look x=.tup vs) (hs:vs[ix]?=some (.agg c)) (hd:dOk C o.dst=true):LOp C o σ ⟨.s (.agg c),[]⟩ (fun _=>false):=lop_extract ho hx hs hd
theorem lop_box_a {T:TypeId} {x:Operand} {d n:Nat} {mo0:Option MO} {c:List AC} (ho:o.op=.box T x) (hdst:o.dst=some d) (hx:σ.look x=.s (.agg c)) (hm:σ.mem d=(n,mo0)) (hd:dOk C o.dst=true) :
    LOp C o σ ⟨.o (.ptr d n 0),[(d,(n+1,some (.box T c)))]⟩ (fun y=>y == d):=lop_box ho hdst hx hm hd
theorem lop_box_o {T:TypeId} {x:Operand} {d n:Nat} {mo0:Option MO} {c:AC} (ho:o.op=.box T x) (hdst:o.dst=some d) (hx:σ.look x=.s (.one c)) (hm:σ.mem d=(n,mo0)) (hd:dOk C o.dst=true) :
    LOp C o σ ⟨.o (.ptr d n 0),[(d,(n+1,some (.box T [c])))]⟩ (fun y=>y == d):=lop_box ho hdst hx hm hd
theorem rb {x y:Bool} (h:x=y):AV.p (.v (.bool x))=.s (.one (.p (.v (.bool y)))):=by rw [h]
theorem ri {x y:Int} {k:IntKind} (h:x=y):AV.p (.v (.int k x))=.s (.one (.p (.v (.int k y)))):=by rw [h]
/-! in a region that draws -/
variable {W:List (Nat × Nat)} {i:Nat}
theorem rk_nil (h:K σ):RunK C ops W i [] K σ:=h
theorem rk_gf {j t:Nat} {want b:Bool} (hg:o.guard=some (j,want)) (ht:(ops[j]?).bind (·.dst)=some t) (hv:σ.env t=.p (.v (.bool b))) {d:Nat} (hb:b=!want) (hdd:o.dst=some d) (hd:dOk C o.dst=true) (hk:RunK C ops W (i+1) rest K (σ.set (some d) (.tup []))):RunK C ops W i (o::rest) K σ:=by
  rw [← hdd] at hk;exact ⟨⟨.tup [],[]⟩,.inr ⟨by unfold Guard;rw [hg];exact ⟨t,ht,.inl ⟨b,hv,by cases want<;>simp [hb]⟩⟩,hd,rfl⟩,hk⟩
theorem rk_gu {j t:Nat} {want:Bool} {d:Nat} (hg:o.guard=some (j,want)) (ht:(ops[j]?).bind (·.dst)=some t) (hv:σ.env t=.tup []) (hdd:o.dst=some d) (hd:dOk C o.dst=true) (hk:RunK C ops W (i+1) rest K (σ.set (some d) (.tup []))):RunK C ops W i (o::rest) K σ:=by
  rw [← hdd] at hk;exact ⟨⟨.tup [],[]⟩,.inr ⟨by unfold Guard;rw [hg];exact ⟨t,ht,.inr ⟨hv,rfl⟩⟩,hd,rfl⟩,hk⟩
theorem rk_split {j t:Nat} {want b:Bool} (hg:o.guard=some (j,want)) (ht:(ops[j]?).bind (·.dst)=some t) (hv:σ.env t=.p (.v (.bool b))) (h1:b=true→RunK C ops W i (o::rest) K σ) (h2:b=false→RunK C ops W i (o::rest) K σ):RunK C ops W i (o::rest) K σ:=by
  cases b with
  | true=>exact h1 rfl
  | false=>exact h2 rfl
end steps
def ResL (P:Program) (fn:Func) (σ:St) (K:Nat→Bool) (r:AV):Prop:=∃ l,r=resAV l∧All2 (Res P σ K) fn.results.toList l
theorem Ret.of {P:Program} {fn:Func} {r:AV} {σ:St} (h:ResL P fn σ kNone r):Ret P fn r .ret σ:=h
section rets
variable {P:Program} {fn:Func} {r:AV} {σ:St} {s s' u u':SV} {t t' ty ty' ty1 o g n sz by_:Nat} {k:TK} {cs ds:List AC} {K:Nat→Bool}
theorem res0 (hf:fn.results.toList=[]) (hr:r=.tup []):ResL P fn σ K r:=⟨[],hr,by rw [hf];exact .nil⟩
theorem res1 {rv:ResultVar} (hf:fn.results.toList=[rv]) (hr:r=.s s) (h:Res P σ K rv s):ResL P fn σ K r:=⟨[s],hr,by rw [hf];exact .cons h .nil⟩
theorem res2 {rv rv':ResultVar} (hf:fn.results.toList=[rv,rv']) (hr:r=.tup [s,s']) (h:Res P σ K rv s) (h':Res P σ K rv' s'):ResL P fn σ K r:=⟨[s,s'],hr,by rw [hf];exact .cons h (.cons h' .nil)⟩
theorem ot1 (hf:fn.results.toList=[.tmp t]) (hv:σ.env t=.s s) (hs:FinS σ K s s') (hr:r=.s s'):ResL P fn σ K r:=res1 hf hr (.tmp hv hs)
theorem oc1 [hT:TI P ty k sz by_] (hf:fn.results.toList=[.cell t ty]) (hv:σ.env t=.o (.ptr o g 0)) (hm:σ.mem o=(n,some (.box ty1 cs))) (hn:n=g+1) (hk:k.agg=true) (hl:cs.length=sz) (hs:All2 (FinC σ K) cs ds) (hr:r=.a ds):ResL P fn σ K r:=by
  subst hn;exact res1 hf hr (.cell hv hm hT hk hl hs)
theorem ot2 (hf:fn.results.toList=[.tmp t,.tmp t']) (hv:σ.env t=.s s) (hs:FinS σ K s s') (hv':σ.env t'=.s u) (hs':FinS σ K u u') (hr:r=.tup [s',u']):ResL P fn σ K r:=res2 hf hr (.tmp hv hs) (.tmp hv' hs')
theorem oc2 [hT:TI P ty k sz by_] (hf:fn.results.toList=[.cell t ty,.tmp t']) (hv:σ.env t=.o (.ptr o g 0)) (hm:σ.mem o=(n,some (.box ty1 cs))) (hn:n=g+1) (hk:k.agg=true) (hl:cs.length=sz) (hs:All2 (FinC σ K) cs ds) (hv':σ.env t'=.s u) (hs':FinS σ K u u') (hr:r=.tup [.agg ds,u']):ResL P fn σ K r:=by
  subst hn;exact res2 hf hr (.cell hv hm hT hk hl hs) (.tmp hv' hs')
theorem rt1 (hf:fn.results.toList=[.tmp t]) (hv:σ.env t=.s s) (hs:FinS σ kNone s s') (hr:r=.s s'):Ret P fn r .ret σ:=ot1 hf hv hs hr
theorem rc1 [hT:TI P ty k sz by_] (hf:fn.results.toList=[.cell t ty]) (hv:σ.env t=.o (.ptr o g 0)) (hm:σ.mem o=(n,some (.box ty1 cs))) (hn:n=g+1) (hk:k.agg=true) (hl:cs.length=sz) (hs:All2 (FinC σ kNone) cs ds) (hr:r=.a ds):Ret P fn r .ret σ:=oc1 hf hv hm hn hk hl hs hr
theorem rt2 (hf:fn.results.toList=[.tmp t,.tmp t']) (hv:σ.env t=.s s) (hs:FinS σ kNone s s') (hv':σ.env t'=.s u) (hs':FinS σ kNone u u') (hr:r=.tup [s',u']):Ret P fn r .ret σ:=ot2 hf hv hs hv' hs' hr
theorem rc2 [hT:TI P ty k sz by_] (hf:fn.results.toList=[.cell t ty,.tmp t']) (hv:σ.env t=.o (.ptr o g 0)) (hm:σ.mem o=(n,some (.box ty1 cs))) (hn:n=g+1) (hk:k.agg=true) (hl:cs.length=sz) (hs:All2 (FinC σ kNone) cs ds) (hv':σ.env t'=.s u) (hs':FinS σ kNone u u') (hr:r=.tup [.agg ds,u']):Ret P fn r .ret σ:=oc2 hf hv hm hn hk hl hs hv' hs' hr
end rets
theorem finL_p {σ:St} {K:Nat→Bool}:∀ {cs:List AC} [h:PureL cs],All2 (FinC σ K) cs cs:=by
  intro cs h
  refine ⟨rfl,fun i a b ha hb=>?_⟩
  rw [ha] at hb;obtain rfl:=Option.some.inj hb
  have:=h.pure a (List.mem_of_getElem? ha)
  cases a<;>simp [AC.isP] at this
  exact .p
theorem finS_p {σ:St} {x:PVal} {K:Nat→Bool}:FinS σ K (.one (.p x)) (.one (.p x)):=.one .p
/-! ### Objects that are lent -/
def memL:List (Nat × (Nat × Option MO))→Nat→Nat × Option MO
  | [],_=>(0,none)
  | (k,m)::l,o=>if o=k then m else memL l o
def kIn:List (Nat × (Nat × Option MO))→Nat→Bool
  | [],_=>false
  | (k,_)::l,o=>Nat.beq o k||kIn l o
def FinMs (σ:St) (K:Nat→Bool):List (Nat × (Nat × Option MO))→Prop
  | []=>True
  | p::l=>FinM σ K (σ.mem p.1) p.2∧FinMs σ K l
theorem RetO.mk {P:Program} {fn:Func} {r:AV} {σ:St} {l:List (Nat × (Nat × Option MO))} (h:ResL P fn σ (kIn l) r) (hm:FinMs σ (kIn l) l):RetO P fn r (kIn l) (memL l) .ret σ:=by
  refine ⟨h,?_,?_⟩
  · have key:∀ (K:Nat→Bool) (l:List (Nat × (Nat × Option MO))),FinMs σ K l→∀ o,kIn l o=true→FinM σ K (σ.mem o) (memL l o):=by
      intro K l
      induction l with
      | nil=>intro _ o ho;cases ho
      | cons p l ih=>
        obtain ⟨k,m⟩:=p
        intro hl o ho
        by_cases hk:o=k
        · subst hk;simp only [memL,if_true];exact hl.1
        · simp only [memL,hk,if_false]
          refine ih hl.2 o ?_
          simp only [kIn,Bool.or_eq_true] at ho
          exact ho.resolve_left fun h=>hk (Nat.eq_of_beq_eq_true h)
    exact key _ l hm
  · intro o ho
    induction l with
    | nil=>rfl
    | cons p l ih=>
      obtain ⟨k,m⟩:=p
      simp only [kIn,Bool.or_eq_false_iff] at ho
      have hk:o≠k:=fun e=>by rw [e] at ho;simp at ho
      simp only [memL,hk,if_false]
      have key:∀ (l:List (Nat × (Nat × Option MO))),kIn l o=false→memL l o=(0,none):=by
        intro l
        induction l with
        | nil=>intro _;rfl
        | cons p l ih=>
          obtain ⟨k,m⟩:=p
          intro ho
          simp only [kIn,Bool.or_eq_false_iff] at ho
          have hk:o≠k:=fun e=>by rw [e] at ho;simp at ho
          simp only [memL,hk,if_false];exact ih ho.2
      exact key l ho.2
end Go.Aw
/- THE ABSTRACT WALK, part 8: loops by what turns in them. -/
namespace Go.Aw
open Go Go.RowKit
set_option linter.unusedVariables false
set_option linter.unusedSimpArgs false
def ovl {α:Type}:List (Nat × α)→(Nat→α)→Nat→α
  | [],f,t=>f t
  | (k,v)::l,f,t=>if t=k then v else ovl l f t
def memb:List Nat→Nat→Bool
  | [],_=>false
  | k::l,t=>Nat.beq t k||memb l t
def St.fr (σ:St) (W:List Nat) (β:Nat→AV) (e:List (Nat × AV)) (M:List Nat) (γ:Nat→Nat × Option MO) (m:List (Nat × (Nat × Option MO))):St where
  env:=ovl e fun t=>bif memb W t then β t else σ.env t
  mem:=ovl m fun t=>bif memb M t then γ t else σ.mem t
def Fr' (σ:St) (W:List Nat) (e:List (Nat × AV)) (M:List Nat) (m:List (Nat × (Nat × Option MO))) (τ:St):Prop:=∃ β γ,τ=σ.fr W β e M γ m
structure Agr (σ:St) (W M:List Nat) (τ:St):Prop where
  env:∀ t,memb W t=false→τ.env t=σ.env t
  mem:∀ t,memb M t=false→τ.mem t=σ.mem t
theorem Agr.refl {σ:St} {W M:List Nat}:Agr σ W M σ:=⟨fun _ _=>rfl,fun _ _=>rfl⟩
theorem Agr.set {σ τ:St} {W M:List Nat} {d:Nat} {v:AV} (hd:memb W d=true) (h:Agr σ W M τ):Agr σ W M (τ.set (some d) v):=
  ⟨fun t ht=>by
    have:t≠d:=fun e=>by rw [e,hd] at ht;cases ht
    simp only [St.set,this,if_false];exact h.env t ht,h.mem⟩
theorem Agr.app {σ τ:St} {W M:List Nat} {d:Nat} {v:AV} (hd:memb W d=true) (h:Agr σ W M τ):Agr σ W M ((⟨v,[]⟩:Eff).app (some d) τ):=h.set hd
theorem Agr.put {σ τ:St} {W M:List Nat} {o:Nat} {m:Nat × Option MO} (ho:memb M o=true) (h:Agr σ W M τ):Agr σ W M (τ.put o m):=
  ⟨h.env,fun t ht=>by
    have:t≠o:=fun e=>by rw [e,ho] at ht;cases ht
    simp only [St.put,this,if_false];exact h.mem t ht⟩
theorem Agr.puts {σ τ:St} {W M:List Nat}:∀ {l:List (Nat × (Nat × Option MO))},l.all (fun p=>memb M p.1)=true→Agr σ W M τ→Agr σ W M (τ.puts l)
  | [],_,h=>h
  | (o,m)::l,ho,h=>by
    simp only [List.all_cons,Bool.and_eq_true] at ho
    exact (Agr.puts ho.2 h).put ho.1
theorem Agr.appg {σ τ:St} {W M:List Nat} {e:Eff} {d:Nat} (hd:memb W d=true) (ho:e.obj.all (fun p=>memb M p.1)=true) (h:Agr σ W M τ):Agr σ W M (e.app (some d) τ):=(Agr.puts ho h).set hd
theorem Agr.appgn {σ τ:St} {W M:List Nat} {e:Eff} (ho:e.obj.all (fun p=>memb M p.1)=true) (h:Agr σ W M τ):Agr σ W M (e.app none τ):=Agr.puts ho h
theorem ovl_mem {α:Type} {e:List (Nat × α)} {f g:Nat→α} {t:Nat} (h:f t=g t):ovl e f t=ovl e g t:=by
  induction e with
  | nil=>exact h
  | cons p e ih=>obtain ⟨k,v⟩:=p;simp only [ovl];split;rfl;exact ih
theorem Agr.fr {σ:St} {W W' M M':List Nat} {β:Nat→AV} {e:List (Nat × AV)} {γ:Nat→Nat × Option MO} {m:List (Nat × (Nat × Option MO))} {σ':St} (h:Agr σ W M σ') (hW:∀ t,memb W' t=true→memb W t=true) (hM:∀ t,memb M' t=true→memb M t=true)
    (he:e.all (fun p=>memb W p.1)=true) (hm:m.all (fun p=>memb M p.1)=true):Agr σ W M (σ'.fr W' β e M' γ m):=by
  have key:∀ {α:Type} (l:List (Nat × α)) (f:Nat→α) (W:List Nat) (t:Nat),l.all (fun p=>memb W p.1)=true→memb W t=false→ovl l f t=f t:=by
    intro α l f W t hl ht
    induction l with
    | nil=>rfl
    | cons p l ih=>
      obtain ⟨k,v⟩:=p
      simp only [List.all_cons,Bool.and_eq_true] at hl
      have:t≠k:=fun e=>by rw [e,hl.1] at ht;cases ht
      simp only [ovl,this,if_false];exact ih hl.2
  refine ⟨fun t ht=>?_,fun t ht=>?_⟩
  · simp only [St.fr]
    rw [key e _ W t he ht]
    have:memb W' t=false:=by
      cases hq:memb W' t with
      | false=>rfl
      | true=>rw [hW t hq] at ht;cases ht
    rw [this];exact h.env t ht
  · simp only [St.fr]
    rw [key m _ M t hm ht]
    have:memb M' t=false:=by
      cases hq:memb M' t with
      | false=>rfl
      | true=>rw [hM t hq] at ht;cases ht
    rw [this];exact h.mem t ht
theorem Agr.fr0 {σ:St} {W M:List Nat} {β:Nat→AV} {e:List (Nat × AV)} {γ:Nat→Nat × Option MO} {m:List (Nat × (Nat × Option MO))} (he:e.all (fun p=>memb W p.1)=true) (hm:m.all (fun p=>memb M p.1)=true):Agr σ W M (σ.fr W β e M γ m):=
  Agr.refl.fr (fun _ h=>h) (fun _ h=>h) he hm
inductive Knows {α:Type} (f:Nat→α):List (Nat × α)→Prop
  | nil:Knows f []
  | cons {k:Nat} {v:α} {l:List (Nat × α)} (h:f k=v) (hl:Knows f l):Knows f ((k,v)::l)
theorem Knows.ovl {α:Type} {f g:Nat→α} {W:List Nat}:∀ {e:List (Nat × α)},Knows f e→(∀ t,memb W t=false→f t=g t)→∀ t,Go.Aw.ovl e (fun t=>bif memb W t then f t else g t) t=f t
  | [],_,hg,t=>by
    simp only [Go.Aw.ovl]
    cases hq:memb W t with
    | true=>rfl
    | false=>exact (hg t hq).symm
  | (k,v)::e,h,hg,t=>by
    cases h with
    | cons h hl=>
      simp only [Go.Aw.ovl]
      split
      · rename_i ht;rw [ht];exact h.symm
      · exact Knows.ovl hl hg t
theorem st_eq {s t:St} (h1:s.env=t.env) (h2:s.mem=t.mem):s=t:=by
  obtain ⟨a,b⟩:=s;obtain ⟨c,d⟩:=t;cases h1;cases h2;rfl
theorem Fr'.mk {σ τ:St} {W M:List Nat} {e:List (Nat × AV)} {m:List (Nat × (Nat × Option MO))} (h:Agr σ W M τ) (he:Knows τ.env e) (hm:Knows τ.mem m):Fr' σ W e M m τ:=by
  refine ⟨τ.env,τ.mem,?_⟩
  have h1:τ.env=(σ.fr W τ.env e M τ.mem m).env:=funext fun t=>(he.ovl h.env t).symm
  have h2:τ.mem=(σ.fr W τ.env e M τ.mem m).mem:=funext fun t=>(hm.ovl h.mem t).symm
  exact st_eq h1 h2
theorem aws_loopF {ι:Type} {C:Ctx} {Q:Exit→St→Prop} {σ:St} {c:Code} {k:List Code} {id:Nat} (W M:List Nat) (e:ι→List (Nat × AV)) (m:ι→List (Nat × (Nat × Option MO))) (P:ι→Prop) (μ:ι→Nat) (i₀:ι)
    (h₀:P i₀) (he:Knows σ.env (e i₀)) (hm:Knows σ.mem (m i₀))
    (round:∀ i β γ,P i→AWs C [c] (fun x s'=>match x with | .normal=>∃ j,μ j < μ i∧P j∧Fr' σ W (e j) M (m j) s'|x=>blk id (AWs C k Q) Q x s') (σ.fr W β (e i) M γ (m i))):AWs C (.block id (.loop c)::k) Q σ:=
  aws_loop (fun i s=>P i∧Fr' σ W (e i) M (m i) s) μ i₀ ⟨h₀,.mk .refl he hm⟩ fun i s ⟨hP,β,γ,hs⟩=>by subst hs;exact round i β γ hP
end Go.Aw
/- THE ABSTRACT WALK, part 9: '==' between structs and arrays of plain cells. -/
namespace Go.Aw
open Go Go.RowKit
set_option linter.unusedVariables false
set_option linter.unusedSimpArgs false
inductive LK where
  | int (k:IntKind)|bool|str
def LK.has:LK→Value→Bool
  | .int k,.int k' _=>k == k'
  | .bool,.bool _=>true
  | .str,.string _=>true
  | _,_=>false
def vEq:Value→Value→Bool
  | .int _ a,.int _ b=>decide (a=b)
  | .bool a,.bool b=>a == b
  | .string a,.string b=>a.toList == b.toList
  | _,_=>false
def vEqB:List Value→List Value→Bool
  | [],[]=>true
  | x::xs,y::ys=>vEq x y&&vEqB xs ys
  | _,_=>false
def HasL (lks:List LK) (xs:List Value):Prop:=All2 (fun l v=>LK.has l v=true) lks xs
theorem vEqB_append:∀ {a b c d:List Value},a.length=c.length→vEqB (a++b) (c++d)=(vEqB a c&&vEqB b d)
  | [],b,[],d,_=>by simp [vEqB]
  | x::a,b,y::c,d,h=>by
    simp only [List.cons_append,vEqB]
    rw [vEqB_append (by simpa using h),Bool.and_assoc]
  | [],_,_::_,_,h=>by simp at h
  | _::_,_,[],_,h=>by simp at h
def flatEq (P:Program):Nat→TypeId→Option (List LK)
  | 0,_=>none
  | f+1,T=>match P.underlying T with
    | some (.int k)=>some [.int k]
    | some .bool=>some [.bool]
    | some .string=>some [.str]
    | some (.struct fs)=>if P.stoodInHeld T then none else
        (fs.toList.foldl (fun (acc:Option (List LK)) fd=>match acc,flatEq P f fd.type with
          | some l, some m => if fd.name ≠ "_" ∧ fd.offset = l.length ∧ (P.info? fd.type).map (·.size) = some m.length then some (l ++ m) else none
          | _,_=>none) (some []))
    | some (.array n e)=>match flatEq P f e with
        | some m=>if (P.info? e).map (·.size)=some m.length then some (List.replicate n m).flatten else none
        | none=>none
    | _=>none
class EqT (P:Program) (T:TypeId) (lks:outParam (List LK)):Prop where
  flat:flatEq P 6 T=some lks
  guard:P.eqGuardType P.depth T=false
def IsV (P:Program) (T:TypeId) (xs:List Value) (v:Value):Prop:=
  match P.underlying T with
  | some (.struct _)|some (.array _ _)=>v=.agg xs.toArray
  | _=>xs=[v]
theorem run_partV {P:Program} {T:TypeId} {xs:List Value} {off n:Nat} {d:TypeDesc} (hd:P.underlying T=some d) (hs:(P.info? T).map (·.size)=some n) (hl:off+n≤xs.length) (h1:(TK.of d).agg=false→n=1) (w:World) :
    ∃ v,(part T xs.toArray off).run P w=.ok v w∧IsV P T ((xs.drop off).take n) v:=by
  have hTI:TI P T (TK.of d) n (((P.info? T).map (·.bytes)).getD 0):=⟨by simp [hd],by cases hi:P.info? T<;>simp_all⟩
  have:=run_part hTI xs off w hl h1
  refine ⟨_,this,?_⟩
  unfold IsV
  rw [hd]
  cases d with
  | struct fs=>simp [TK.of,TK.agg]
  | array n' e=>simp [TK.of,TK.agg]
  | _=>
    have hn:n=1:=h1 rfl
    subst hn
    have hlt:off < xs.length:=by omega
    simp only [TK.of,TK.agg,Bool.false_eq_true,if_false]
    rw [List.getD_eq_getElem?_getD,List.getElem?_eq_getElem hlt,Option.getD_some]
    rw [List.drop_eq_getElem_cons hlt];rfl
def eqElems (d:Nat) (e:TypeId) (n:Nat) (xs ys:Array Value):List Nat→Sem Bool
  | []=>pure true
  | i::l=>do
    let a ← part e xs (i * n)
    let b ← part e ys (i * n)
    let r ← Op.equalIn d e a b
    if (!r)=true then pure false else eqElems d e n xs ys l
theorem run_equalIn_array {P:Program} (d:Nat) (t e:TypeId) (len n:Nat) (xs ys:Array Value) (ht:P.underlying t=some (.array len e)) (hn:(P.info? e).map (·.size)=some n) (w:World) :
    (Op.equalIn (d+1) t (.agg xs) (.agg ys)).run P w=(eqElems d e n xs ys (List.range' 0 len)).run P w:=by
  have hs:(sizeOf e).run P w=.ok n w:=by
    cases hi:P.info? e with
    | none=>simp [hi] at hn
    | some i=>simp [hi] at hn;simp [sizeOf,typeInfo,hi,hn]
  simp only [Op.equalIn,Sem.run_bind,run_underlying ht,Result.andThen_ok,hs]
  rw [Std.Legacy.Range.forIn_eq_forIn_range']
  simp only [Std.Legacy.Range.size,Nat.sub_zero,Nat.add_sub_cancel,Nat.div_one]
  generalize List.range' 0 len 1=l
  clear hs
  induction l generalizing w with
  | nil=>simp [eqElems]
  | cons i l ih=>
    simp only [List.forIn_cons,eqElems,Sem.run_bind,Sem.run_ite]
    generalize (part e xs (i * n)).run P w=r1
    cases r1 with
    | ok a w1=>
      simp only [Result.andThen_ok]
      generalize (part e ys (i * n)).run P w1=r2
      cases r2 with
      | ok b w2=>
        simp only [Result.andThen_ok]
        generalize (Op.equalIn d e a b).run P w2=r3
        cases r3 with
        | ok r w3=>
          cases r
          · simp only [Result.andThen_ok,Bool.not_false,if_true,Sem.run_pure]
          · simp only [Result.andThen_ok,Bool.not_true,Bool.false_eq_true,if_false,Sem.run_pure]
            exact ih w3
        | halt x w3=>simp [Result.andThen]
      | halt x w2=>simp [Result.andThen]
    | halt x w1=>simp [Result.andThen]
theorem flatEq_leaf {P:Program} {f:Nat} {T:TypeId} {lks:List LK} {d:TypeDesc} (h:flatEq P f T=some lks) (hd:P.underlying T=some d) (hk:(TK.of d).agg=false):lks.length=1:=by
  cases f with
  | zero=>simp [flatEq] at h
  | succ f=>cases d<;>simp [flatEq,hd,TK.of,TK.agg] at h hk<;>simp [← h]
theorem flatEq_und {P:Program} {f:Nat} {T:TypeId} {lks:List LK} (h:flatEq P f T=some lks):∃ d,P.underlying T=some d:=by
  cases f with
  | zero=>simp [flatEq] at h
  | succ f=>
    cases hu:P.underlying T with
    | none=>simp [flatEq,hu] at h
    | some d=>exact ⟨d,rfl⟩
theorem vEqB_split {n:Nat} {xs ys:List Value} (h:xs.length=ys.length):vEqB xs ys=(vEqB (xs.take n) (ys.take n)&&vEqB (xs.drop n) (ys.drop n)):=by
  rw [← vEqB_append (by simp [h]),List.take_append_drop,List.take_append_drop]
def fstep (P:Program) (f:Nat) (acc:Option (List LK)) (fd:Field):Option (List LK):=match acc,flatEq P f fd.type with
  | some l, some m => if fd.name ≠ "_" ∧ fd.offset = l.length ∧ (P.info? fd.type).map (·.size) = some m.length then some (l ++ m) else none
  | _,_=>none
theorem fstep_none {P:Program} {f:Nat}:∀ (fs:List Field),fs.foldl (fstep P f) none=none
  | []=>rfl
  | fd::fs=>by simp only [List.foldl_cons,fstep];exact fstep_none fs
def FlatOk (P:Program) (f:Nat):Prop:=∀ T lks,flatEq P f T=some lks→∀ d,f≤d→∀ xs ys u v,HasL lks xs→HasL lks ys→IsV P T xs u→IsV P T ys v→∀ w,(Op.equalIn d T u v).run P w=.ok (vEqB xs ys) w
theorem sub_eq {P:Program} {f d:Nat} (ih:FlatOk P f) (hfd:f≤d) {T:TypeId} {m pre post lks:List LK} (hm:flatEq P f T=some m) (hs:(P.info? T).map (·.size)=some m.length) {xs ys:List Value} (hx:HasL lks xs) (hy:HasL lks ys) (he:lks=pre++m++post) (w:World) :
    ∃ a b,(part T xs.toArray pre.length).run P w=.ok a w∧(part T ys.toArray pre.length).run P w=.ok b w∧(Op.equalIn d T a b).run P w=.ok (vEqB ((xs.drop pre.length).take m.length) ((ys.drop pre.length).take m.length)) w:=by
  obtain ⟨dd,hdd⟩:=flatEq_und hm
  have h1:(TK.of dd).agg=false→m.length=1:=fun hk=>flatEq_leaf hm hdd hk
  have hlx:pre.length+m.length≤xs.length:=by rw [← hx.1,he];simp
  have hly:pre.length+m.length≤ys.length:=by rw [← hy.1,he];simp
  obtain ⟨a,ha,hva⟩:=run_partV hdd hs hlx h1 w
  obtain ⟨b,hb,hvb⟩:=run_partV hdd hs hly h1 w
  have hsub:(lks.drop pre.length).take m.length=m:=by
    rw [he,List.append_assoc,List.drop_left',List.take_left']<;>rfl
  have hx':HasL m ((xs.drop pre.length).take m.length):=by have:=(All2.drop hx pre.length).take m.length;rwa [hsub] at this
  have hy':HasL m ((ys.drop pre.length).take m.length):=by have:=(All2.drop hy pre.length).take m.length;rwa [hsub] at this
  exact ⟨a,b,ha,hb,ih T m hm d hfd _ _ a b hx' hy' hva hvb w⟩
theorem fields_eq {P:Program} {f d:Nat} (ih:FlatOk P f) (hfd:f≤d) {lks:List LK} {xs ys:List Value} (hx:HasL lks xs) (hy:HasL lks ys) (w:World):∀ (fs:List Field) (l:List LK),fs.foldl (fstep P f) (some l)=some lks→
    (∃ r,lks=l++r)∧(Op.eqFields d xs.toArray ys.toArray fs).run P w=.ok (vEqB (xs.drop l.length) (ys.drop l.length)) w
  | [],l,h=>by
    simp only [List.foldl_nil,Option.some.injEq] at h
    subst h
    refine ⟨⟨[],by simp⟩,?_⟩
    have e1:xs.drop l.length=[]:=List.drop_of_length_le (Nat.le_of_eq hx.1.symm)
    have e2:ys.drop l.length=[]:=List.drop_of_length_le (Nat.le_of_eq hy.1.symm)
    rw [e1,e2];simp [Op.eqFields,vEqB]
  | fd::fs,l,h=>by
    simp only [List.foldl_cons] at h
    cases hm:flatEq P f fd.type with
    | none=>simp only [fstep,hm] at h;rw [fstep_none] at h;cases h
    | some m=>
      simp only [fstep,hm] at h
      by_cases hc : fd.name ≠ "_" ∧ fd.offset = l.length ∧ (P.info? fd.type).map (·.size) = some m.length
      · rw [if_pos hc] at h
        obtain ⟨⟨r,hr⟩,hrun⟩:=fields_eq ih hfd hx hy w fs (l++m) h
        refine ⟨⟨m++r,by rw [hr];simp⟩,?_⟩
        obtain ⟨a,b,ha,hb,hab⟩:=sub_eq ih hfd hm hc.2.2 hx hy hr w
        simp only [Op.eqFields,if_pos hc.1,Sem.run_bind,hc.2.1,ha,hb,hab,Result.andThen_ok]
        have hlen:(xs.drop l.length).length=(ys.drop l.length).length:=by simp [← hx.1,← hy.1]
        rw [vEqB_split (n:=m.length) hlen]
        simp only [List.drop_drop]
        simp only [List.length_append] at hrun
        cases vEqB ((xs.drop l.length).take m.length) ((ys.drop l.length).take m.length) with
        | true=>simpa using hrun
        | false=>simp
      · rw [if_neg hc,fstep_none] at h;cases h
theorem elems_eq {P:Program} {f d:Nat} (ih:FlatOk P f) (hfd:f≤d) {e:TypeId} {m lks:List LK} (hm:flatEq P f e=some m) (hs:(P.info? e).map (·.size)=some m.length) {xs ys:List Value} (hx:HasL lks xs) (hy:HasL lks ys) (w:World):∀ (k i:Nat),lks=(List.replicate (i+k) m).flatten→
    (eqElems d e m.length xs.toArray ys.toArray (List.range' i k)).run P w=.ok (vEqB (xs.drop (i * m.length)) (ys.drop (i * m.length))) w
  | 0,i,h=>by
    have hl:lks.length=i * m.length:=by rw [h];simp
    have e1:xs.drop (i * m.length)=[]:=List.drop_of_length_le (by rw [← hl,hx.1];exact Nat.le_refl _)
    have e2:ys.drop (i * m.length)=[]:=List.drop_of_length_le (by rw [← hl,hy.1];exact Nat.le_refl _)
    rw [e1,e2];simp [eqElems,vEqB]
  | k+1,i,h=>by
    have h':lks=(List.replicate i m).flatten++m++(List.replicate k m).flatten:=by
      rw [h,← List.replicate_append_replicate,List.flatten_append,List.replicate_succ,List.flatten_cons,List.append_assoc]
    have hpl:(List.replicate i m).flatten.length=i * m.length:=by simp
    obtain ⟨a,b,ha,hb,hab⟩:=sub_eq ih hfd hm hs hx hy h' w
    rw [hpl] at ha hb hab
    have hrun:=elems_eq ih hfd hm hs hx hy w k (i+1) (by rw [h];congr 2;omega)
    simp only [List.range'_succ,eqElems,Sem.run_bind,ha,hb,hab,Result.andThen_ok]
    have hlen:(xs.drop (i * m.length)).length=(ys.drop (i * m.length)).length:=by simp [← hx.1,← hy.1]
    rw [vEqB_split (n:=m.length) hlen]
    simp only [List.drop_drop]
    rw [Nat.add_mul,Nat.one_mul] at hrun
    cases vEqB ((xs.drop (i * m.length)).take m.length) ((ys.drop (i * m.length)).take m.length) with
    | true=>simpa using hrun
    | false=>simp
theorem hasL_one {l:LK} {xs:List Value} (h:HasL [l] xs):∃ v,xs=[v]∧LK.has l v=true:=by
  obtain ⟨v,m,rfl,h1,h2⟩:=All2.cons_inv h
  obtain rfl:=h2.nil_inv
  exact ⟨v,rfl,h1⟩
theorem flat_ok {P:Program}:∀ f,FlatOk P f
  | 0=>fun T lks h=>by simp [flatEq] at h
  | f+1=>fun T lks h d hfd xs ys u v hx hy hu hv w=>by
    have ih:=flat_ok (P:=P) f
    obtain ⟨d,rfl⟩:∃ d',d=d'+1:=⟨d - 1,by omega⟩
    obtain ⟨dd,hdd⟩:=flatEq_und h
    simp only [flatEq,hdd] at h
    simp only [IsV,hdd] at hu hv
    cases dd with
    | int k=>
      simp only [Option.some.injEq] at h;subst h
      obtain ⟨x,rfl,h1⟩:=hasL_one hx
      obtain ⟨y,rfl,h2⟩:=hasL_one hy
      simp only [List.cons.injEq,and_true] at hu hv
      subst hu hv
      cases x<;>simp [LK.has] at h1
      cases y<;>simp [LK.has] at h2
      rename_i k1 a k2 b
      subst h1 h2
      rw [run_equalIn_int w d T _ _ a b hdd];simp [vEqB,vEq];rfl
    | bool=>
      simp only [Option.some.injEq] at h;subst h
      obtain ⟨x,rfl,h1⟩:=hasL_one hx
      obtain ⟨y,rfl,h2⟩:=hasL_one hy
      simp only [List.cons.injEq,and_true] at hu hv
      subst hu hv
      cases x<;>simp [LK.has] at h1
      cases y<;>simp [LK.has] at h2
      rw [run_equalIn_bool' w d T _ _ hdd];simp [vEqB,vEq]
    | string=>
      simp only [Option.some.injEq] at h;subst h
      obtain ⟨x,rfl,h1⟩:=hasL_one hx
      obtain ⟨y,rfl,h2⟩:=hasL_one hy
      simp only [List.cons.injEq,and_true] at hu hv
      subst hu hv
      cases x<;>simp [LK.has] at h1
      cases y<;>simp [LK.has] at h2
      rw [run_equalIn_string w d T _ _ hdd];simp [vEqB,vEq]
    | struct fs=>
      simp only at hu hv
      subst hu hv
      by_cases hst:P.stoodInHeld T=true
      · simp [hst] at h
      · simp only [hst,if_false] at h
        have hfo:P.fieldsOf T=fs:=by simp [Program.fieldsOf,hdd]
        have hrun:=run_equalIn_struct (P:=P) w d T xs.toArray ys.toArray (by rw [hfo];exact hdd) (by simpa using hst)
        rw [hrun,hfo]
        have:=(fields_eq (d:=d) ih (by omega) hx hy w fs.toList [] h).2
        simpa using this
    | array n e=>
      simp only at hu hv
      subst hu hv
      cases hm:flatEq P f e with
      | none=>simp [hm] at h
      | some m=>
        simp only [hm] at h
        by_cases hs:(P.info? e).map (·.size)=some m.length
        · simp only [hs,if_true,Option.some.injEq] at h
          rw [run_equalIn_array d T e n m.length _ _ hdd hs w]
          have:=elems_eq (d:=d) ih (by omega) hm hs hx hy w n 0 (by rw [← h];simp)
          simpa using this
        · simp [hs] at h
    | _=>simp at h
def Plain (cs:List AC) (xs:List Value):Prop:=cs=xs.map fun v=>.p (.v v)
theorem plain_vals {μ:Mu} {X:Wd} {cs:List AC} {xs arr:List Value} (h:Plain cs xs) (ha:All2 (AC.holds μ X) cs arr):arr=xs:=by
  subst h
  apply List.ext_getElem?
  intro i
  by_cases hi:i < xs.length
  · have h1:(xs.map fun v=>AC.p (.v v))[i]?=some (.p (.v xs[i])):=by simp [hi]
    obtain ⟨v,hv,hh⟩:=ha.get h1
    rw [hv,List.getElem?_eq_getElem hi,hh.1]
  · have:=ha.1
    simp only [List.length_map] at this
    rw [List.getElem?_eq_none (by omega),List.getElem?_eq_none (by omega)]
theorem Plain.nil:Plain [] []:=rfl
theorem Plain.cons {v:Value} {cs:List AC} {xs:List Value} (h:Plain cs xs):Plain (.p (.v v)::cs) (v::xs):=by unfold Plain at *;rw [h];rfl
theorem Plain.map {α:Type} {l:List α} {f:α→Value}:Plain (l.map fun x=>.p (.v (f x))) (l.map f):=by unfold Plain;simp
theorem Plain.append {cs ds:List AC} {xs ys:List Value} (h:Plain cs xs) (k:Plain ds ys):Plain (cs++ds) (xs++ys):=by unfold Plain at *;rw [h,k];simp
section ops
variable {C:Ctx} {o:Oper} {σ:St} {t t':TypeId} {x y:Operand} {lks:List LK} {cs ds:List AC} {xs ys:List Value}
theorem lop_eqla (ho:o.op=.binOp .eql t x y t') (hT:EqT C.P t lks) (hx:σ.look x=.a cs) (hy:σ.look y=.a ds) (h1:Plain cs xs) (h2:Plain ds ys) (h3:HasL lks xs) (h4:HasL lks ys) (hagg:∃ k sz by_,TI C.P t k sz by_∧k.agg=true) (hd:dOk C o.dst=true) :
    LOp C o σ ⟨.p (.v (.bool (vEqB xs ys))),[]⟩ (fun _=>false):=
  lop_val hd fun τ a w G hl hm h=>by
    obtain ⟨ax,e1,q1⟩:=look_of h ((hl x (by simp [ho,Op.operands])).trans hx)
    obtain ⟨ay,e2,q2⟩:=look_of h ((hl y (by simp [ho,Op.operands])).trans hy)
    obtain rfl:=plain_vals h1 q1
    obtain rfl:=plain_vals h2 q2
    obtain ⟨k,sz,by_,hTI,hk⟩:=hagg
    obtain ⟨d,hdd,hkd⟩:=hTI.undd
    have hV:∀ zs:List Value,IsV C.P t zs (.agg zs.toArray):=fun zs=>by
      unfold IsV;rw [hdd]
      subst hkd
      cases d<;>simp [TK.of,TK.agg] at hk<;>rfl
    have hrun:=flat_ok 6 t lks hT.flat 10000 (by omega) ax ay _ _ h3 h4 (hV ax) (hV ay) w
    refine ⟨.bool (vEqB ax ay),?_,rfl,rfl⟩
    simp only [execOp,ho,e1,e2,Sem.run_bind,run_eqGuard_agg w .eql t x y _ _ hT.guard,Result.andThen_ok,run_eql_struct,hrun,Sem.run_pure]
theorem lop_neqa (ho:o.op=.binOp .neq t x y t') (hT:EqT C.P t lks) (hx:σ.look x=.a cs) (hy:σ.look y=.a ds) (h1:Plain cs xs) (h2:Plain ds ys) (h3:HasL lks xs) (h4:HasL lks ys) (hagg:∃ k sz by_,TI C.P t k sz by_∧k.agg=true) (hd:dOk C o.dst=true) :
    LOp C o σ ⟨.p (.v (.bool (!vEqB xs ys))),[]⟩ (fun _=>false):=
  lop_val hd fun τ a w G hl hm h=>by
    obtain ⟨ax,e1,q1⟩:=look_of h ((hl x (by simp [ho,Op.operands])).trans hx)
    obtain ⟨ay,e2,q2⟩:=look_of h ((hl y (by simp [ho,Op.operands])).trans hy)
    obtain rfl:=plain_vals h1 q1
    obtain rfl:=plain_vals h2 q2
    obtain ⟨k,sz,by_,hTI,hk⟩:=hagg
    obtain ⟨d,hdd,hkd⟩:=hTI.undd
    have hV:∀ zs:List Value,IsV C.P t zs (.agg zs.toArray):=fun zs=>by
      unfold IsV;rw [hdd]
      subst hkd
      cases d<;>simp [TK.of,TK.agg] at hk<;>rfl
    have hrun:=flat_ok 6 t lks hT.flat 10000 (by omega) ax ay _ _ h3 h4 (hV ax) (hV ay) w
    refine ⟨.bool (!vEqB ax ay),?_,rfl,rfl⟩
    simp only [execOp,ho,e1,e2,Sem.run_bind,run_eqGuard_agg w .neq t x y _ _ hT.guard,Result.andThen_ok,run_neq_struct,hrun,Sem.run_pure]
end ops
theorem HasL.nil:HasL [] []:=All2.nil
theorem HasL.cons {l:LK} {v:Value} {ls:List LK} {xs:List Value} (h:LK.has l v=true) (k:HasL ls xs):HasL (l::ls) (v::xs):=All2.cons h k
end Go.Aw
/- THE ABSTRACT WALK, part 10: a call that is lent objects, at the caller. -/
namespace Go.Aw
open Go Go.RowKit
set_option linter.unusedVariables false
set_option linter.unusedSimpArgs false
def putsM (mem:Nat→Nat × Option MO):List (Nat × (Nat × Option MO))→Nat→Nat × Option MO
  | [],o=>mem o
  | (k,m)::l,o=>if o=k then m else putsM mem l o
theorem puts_mem_eq:∀ (l:List (Nat × (Nat × Option MO))) (σ:St) (o:Nat),(σ.puts l).mem o=putsM σ.mem l o
  | [],_,_=>rfl
  | (k,m)::l,σ,o=>by
    simp only [St.puts,St.put,putsM]
    split
    · rfl
    · exact puts_mem_eq l σ o
theorem RelG.objG {C:Ctx} {σ:St} {a:Act} {w:World} {G:Gh} (h:RelG C σ a w G):ObjG σ.mem w G:=
  ⟨h.gens,h.mem,h.apart,h.stab,fun o b hb=>(h.own o b hb).2,fun b hb=>(h.sbd b hb).1⟩
theorem RelG.called {C:Ctx} {σ:St} {a:Act} {w w':World} {G G':Gh} {D:Nat→Prop} {mem':Nat→Nat × Option MO} (h:RelG C σ a w G) (ho:ObjG mem' w' G')
    (hS:∀ b,G.S b→G'.S b) (hS':∀ b,G'.S b→G.S b∨w.heap.size≤b∨∃ o,D o∧b∈G.φ o)
    (hφ:∀ o b,b∈G'.φ o→b∈G.φ o∨w.heap.size≤b∨∃ o',D o'∧b∈G.φ o') (hμ:G.μ.le G'.μ) (hf:FrF (fun b=>∃ o,D o∧b∈G.φ o) w w') :
    RelG C ⟨σ.env,mem'⟩ a w' G':=by
  have hle:Wd.le ⟨w,G.S⟩ ⟨w',G'.S⟩:=fun b hb=>⟨hS b hb,hf.block b (h.sbd b hb).1 fun ⟨o,_,ho⟩=>h.stab o b ho hb⟩
  exact {
    size:=h.size
    defers:=fun d hd=>by
      obtain ⟨b,rfl,h1,h2,h3,h4,h5⟩:=h.defers d hd
      refine ⟨b,rfl,h1,Nat.lt_of_lt_of_le h2 hf.size,(hf.block b h2 fun ⟨o,_,ho⟩=>h5 o ho).trans h3,fun hs=>?_,fun o hb=>?_⟩
      · rcases hS' b hs with hs|hs | ⟨o,_,hs⟩
        · exact h4 hs
        · omega
        · exact h5 o hs
      · rcases hφ o b hb with hb|hb | ⟨o,_,hb⟩
        · exact h5 o hb
        · omega
        · exact h5 o hb
    dnod:=h.dnod
    mle:=h.mle.trans hμ
    env:=fun t=>(h.env t).mono hμ hle
    gens:=ho.gens
    mem:=ho.mem
    apart:=ho.apart
    stab:=ho.stab
    own:=fun o b hb=>⟨by
      rcases hφ o b hb with h1|h1 | ⟨o',_,h1⟩
      · exact (h.own o b h1).1
      · exact .inl (Nat.le_trans h.fr.size h1)
      · exact (h.own o' b h1).1,ho.own o b hb⟩
    sbd:=fun b hb=>⟨ho.sbd b hb,by
      rcases hS' b hb with h1|h1 | ⟨o,_,h1⟩
      · exact (h.sbd b h1).2
      · exact .inr (.inl (Nat.le_trans h.fr.size h1))
      · exact .inr (h.own o b h1).1⟩
    ssub:=fun b hb=>hS b (h.ssub b hb)
    fr:=⟨hf.os.trans h.fr.os,hf.tape.trans h.fr.tape,hf.output.trans h.fr.output,Nat.le_trans h.fr.size hf.size,fun k hk hF=>by
      refine (hf.block k (Nat.lt_of_lt_of_le hk h.fr.size) fun ⟨o,_,ho⟩=>?_).trans (h.fr.block k hk hF)
      rcases (h.own o k ho).1 with h1|h1
      · omega
      · exact hF h1⟩ }
def inL (l:List (Nat × (Nat × Option MO))) (o:Nat):Prop:=kIn l o=true
def OCAt (P:Program) (f:FuncId) (args:List AV) (lent:List (Nat × (Nat × Option MO))) (fresh:List (Nat × Nat)) (r:AV) (upds:List (Nat × (Nat × Option MO))):Prop:=
  ∀ (w:World) (G:Gh) (mem:Nat→Nat × Option MO) (vs:List Value),ObjG mem w G→(∀ p∈lent,mem p.1=p.2)→(∀ p∈fresh,(mem p.1).1=p.2)→All2 (AV.holds G.μ ⟨w,G.S⟩) args vs→
    Calls P f vs.toArray w fun e w'=>∃ v G',e=.returned v∧r.holds G'.μ ⟨w',G'.S⟩ v∧ObjG (putsM mem upds) w' G'∧
      (∀ b,G.S b→G'.S b)∧(∀ b,G'.S b→G.S b∨w.heap.size≤b∨∃ o,inL upds o∧b∈G.φ o)∧(∀ o b,b∈G'.φ o→b∈G.φ o∨w.heap.size≤b∨∃ o',inL upds o'∧b∈G.φ o')∧
      G.μ.le G'.μ∧FrF (fun b=>∃ o,inL upds o∧b∈G.φ o) w w'
theorem inL_of {l:List (Nat × (Nat × Option MO))} {x:Nat} {m:Nat × Option MO} (h:(x,m)∈l):kIn l x=true:=by
  induction l with
  | nil=>cases h
  | cons p l ih=>
    obtain ⟨k,n⟩:=p
    simp only [List.mem_cons,Prod.mk.injEq] at h
    simp only [kIn,Bool.or_eq_true]
    rcases h with ⟨rfl,_⟩|h
    · exact .inl (by simp)
    · exact .inr (ih h)
theorem putsM_out:∀ (l:List (Nat × (Nat × Option MO))) (m:Nat→Nat × Option MO) (o:Nat),kIn l o=false→putsM m l o=m o
  | [],_,_,_=>rfl
  | (k,n)::l,m,o,h=>by
    simp only [kIn,Bool.or_eq_false_iff] at h
    have hk:o≠k:=fun e=>by rw [e] at h;simp at h
    simp only [putsM,hk,if_false];exact putsM_out l m o h.2
theorem lop_ocall {C:Ctx} {o:Oper} {σ:St} {f:FuncId} {as:Array Operand} {ts:Array TypeId} {args:List AV} {lent upds:List (Nat × (Nat × Option MO))} {fresh:List (Nat × Nat)} {r:AV}
    (ho:o.op=.call ⟨.value (.func f),as,ts⟩) (hfn:FnT C.P f) (ha:All2 (fun x a=>σ.look x=a) as.toList args) (hc:OCAt C.P f args lent fresh r upds)
    (hl:∀ p∈lent,σ.mem p.1=p.2) (hfr:∀ p∈fresh,(σ.mem p.1).1=p.2) (hsub:∀ p∈lent,kIn upds p.1=true) (hsub':∀ p∈fresh,kIn upds p.1=true) (hd:dOk C o.dst=true) :
    LOp C o σ ⟨r,upds⟩ (kIn upds):=by
  refine ⟨fun x m h=>inL_of h,fun τ hlk hm a w ⟨G,h⟩ K Q hK=>?_⟩
  have hv:All2 (AV.holds G.μ ⟨w,G.S⟩) args (as.toList.map a.eval):=by
    refine ⟨by have:=ha.1;simpa using this.symm,fun i av v hav hvv=>?_⟩
    rw [List.getElem?_map] at hvv
    cases hx:as.toList[i]? with
    | none=>rw [hx] at hvv;cases hvv
    | some x=>
      rw [hx] at hvv;simp at hvv;subst hvv
      have h1:=ha.2 i x av hx hav
      have h2:τ.look x=σ.look x:=hlk x (by rw [ho];simp [Op.operands,Call.operands];right;simpa using List.mem_of_getElem? hx)
      rw [← h1,← h2];exact h.look x
  obtain ⟨fn,h1,h2,h3⟩:=hfn.fn
  have hrun:(execOp a.eval o).run C.P w=.ok (.enter f (as.map a.eval)) w:=by
    have e1:a.eval (.func f)=.func (.func f) #[] #[]:=rfl
    have hname : (fn.name == "runtime.NumGoroutine") = false := h2
    cases hbody:fn.body with
    | none=>simp [hbody] at h3
    | some c => simp [execOp, ho, resolve, e1, Deferred.ofValue, invoke, callFunc, program, Sem.run, Sem.run_bind, h1, hbody, pure, show ¬ fn.name = "runtime.NumGoroutine" from by simpa using hname]
  refine wpIn_exec (by rw [ho];intro c h;cases h) ?_
  rw [hrun,Oper.uponIn_enter]
  refine ⟨by simp [fz,Fence.wide],(callsIn_wide (n:=0)).2 ?_⟩
  have e:(as.toList.map a.eval).toArray=as.map a.eval:=by rw [← Array.toList_map]
  rw [← e]
  refine (hc w G τ.mem _ h.objG (fun p hp=>(hm p.1 (hsub p hp)).trans (hl p hp)) (fun p hp=>by rw [hm p.1 (hsub' p hp)];exact hfr p hp) hv).mono ?_
  rintro e w' ⟨v,G',rfl,hr,hobj,k1,k2,k3,k4,k5⟩
  have hrel:=h.called hobj k1 k2 k3 k4 k5
  have hst:(⟨τ.env,putsM τ.mem upds⟩:St)=τ.puts upds:=by
    have e1:=St.puts_env upds τ
    have e2:(τ.puts upds).mem=putsM τ.mem upds:=funext fun o=>puts_mem_eq upds τ o
    cases hq:τ.puts upds;rw [hq] at e1 e2;simp at e1 e2;rw [e1,e2]
  rw [hst] at hrel
  exact hK _ _ ⟨_,hrel.setv hd hr⟩
/-! ### Other numbers for the objects -/
abbrev Rn:=Nat→Option (Nat × Option Nat)
def PVal.no:PVal:=⟨fun _ _=>False,fun _ h=>h,fun h=>h.elim⟩
def AC.ren (ρ:Rn):AC→AC
  | .p x=>.p x
  | .ptr o g off=>match ρ o with|some (c,none)=>.ptr c g off|some (c,some n)=>.ptr c (n+g) off|none=>.p .no
  | .osl o g es lo len=>match ρ o with|some (c,none)=>.osl c g es lo len|some (c,some n)=>.osl c (n+g) es lo len|none=>.p .no
  | .asl o g off len cap=>match ρ o with|some (c,none)=>.asl c g off len cap|some (c,some n)=>.asl c (n+g) off len cap|none=>.p .no
  | .fn f o g pre post=>match ρ o with|some (c,none)=>.fn f c g pre post|some (c,some n)=>.fn f c (n+g) pre post|none=>.p .no
  | .bm f o g off=>match ρ o with|some (c,none)=>.bm f c g off|some (c,some n)=>.bm f c (n+g) off|none=>.p .no
def SV.ren (ρ:Rn):SV→SV
  | .one c=>.one (c.ren ρ)
  | .agg cs=>.agg (cs.map (AC.ren ρ))
def AV.ren (ρ:Rn):AV→AV
  | .un=>.un
  | .s v=>.s (v.ren ρ)
  | .tup vs=>.tup (vs.map (SV.ren ρ))
def MO.ren (ρ:Rn):MO→MO
  | .box ty cs=>.box ty (cs.map (AC.ren ρ))
  | m=>m
structure Agree (ρ:Rn) (μc μ:Mu):Prop where
  lent:∀ k c,ρ k=some (c,none)→μc k=μ c
  fresh:∀ (k c n:Nat),ρ k=some (c,some n)→∀ (g:Nat),(μc k)[g]?=(μ c)[n+g]?
  none:∀ k,ρ k=none→μc k=[]
section ren
variable {ρ:Rn} {μc μ:Mu} {X:Wd}
theorem AC.holds_ren (h:Agree ρ μc μ) {c:AC} {v:Value}:(c.ren ρ).holds μ X v↔c.holds μc X v:=by
  cases c with
  | p x=>rfl
  | ptr o g off=>
    cases hr:ρ o with
    | none=>simp [AC.ren,hr,AC.holds,PVal.no,h.none o hr]
    | some cs=>
      obtain ⟨c,s⟩:=cs
      cases s with
      | none=>simp [AC.ren,hr,AC.holds,h.lent o c hr]
      | some n=>simp [AC.ren,hr,AC.holds,h.fresh o c n hr]
  | osl o g es lo len=>
    cases hr:ρ o with
    | none=>simp [AC.ren,hr,AC.holds,PVal.no,h.none o hr]
    | some cs=>
      obtain ⟨c,s⟩:=cs
      cases s with
      | none=>simp [AC.ren,hr,AC.holds,h.lent o c hr]
      | some n=>simp [AC.ren,hr,AC.holds,h.fresh o c n hr]
  | asl o g off len cap=>
    cases hr:ρ o with
    | none=>simp [AC.ren,hr,AC.holds,PVal.no,h.none o hr]
    | some cs=>
      obtain ⟨c,s⟩:=cs
      cases s with
      | none=>simp [AC.ren,hr,AC.holds,h.lent o c hr]
      | some n=>simp [AC.ren,hr,AC.holds,h.fresh o c n hr]
  | fn f o g pre post=>
    cases hr:ρ o with
    | none=>simp [AC.ren,hr,AC.holds,PVal.no,h.none o hr]
    | some cs=>
      obtain ⟨c,s⟩:=cs
      cases s with
      | none=>simp [AC.ren,hr,AC.holds,h.lent o c hr]
      | some n=>simp [AC.ren,hr,AC.holds,h.fresh o c n hr]
  | bm f o g off=>
    cases hr:ρ o with
    | none=>simp [AC.ren,hr,AC.holds,PVal.no,h.none o hr]
    | some cs=>
      obtain ⟨c,s⟩:=cs
      cases s with
      | none=>simp [AC.ren,hr,AC.holds,h.lent o c hr]
      | some n=>simp [AC.ren,hr,AC.holds,h.fresh o c n hr]
theorem acs_ren (h:Agree ρ μc μ) {cs:List AC} {vs:List Value}:All2 (AC.holds μ X) (cs.map (AC.ren ρ)) vs↔All2 (AC.holds μc X) cs vs:=by
  unfold All2
  simp only [List.length_map]
  refine and_congr Iff.rfl ⟨fun k i a b ha hb=>?_,fun k i a b ha hb=>?_⟩
  · exact (AC.holds_ren h).1 (k i _ b (by rw [List.getElem?_map,ha];rfl) hb)
  · rw [List.getElem?_map] at ha
    cases hx:cs[i]? with
    | none=>rw [hx] at ha;cases ha
    | some x=>rw [hx] at ha;simp at ha;subst ha;exact (AC.holds_ren h).2 (k i x b hx hb)
theorem SV.holds_ren (h:Agree ρ μc μ) {s:SV} {v:Value}:(s.ren ρ).holds μ X v↔s.holds μc X v:=by
  cases s with
  | one c=>exact AC.holds_ren h
  | agg cs=>simp only [SV.ren,SV.holds,acs_ren h]
theorem AV.holds_ren (h:Agree ρ μc μ) {s:AV} {v:Value}:(s.ren ρ).holds μ X v↔s.holds μc X v:=by
  cases s with
  | un=>rfl
  | s v=>exact SV.holds_ren h
  | tup vs=>
    simp only [AV.ren,AV.holds]
    refine exists_congr fun arr=>and_congr Iff.rfl ?_
    unfold All2
    simp only [List.length_map]
    refine and_congr Iff.rfl ⟨fun k i a b ha hb=>?_,fun k i a b ha hb=>?_⟩
    · exact (SV.holds_ren h).1 (k i _ b (by rw [List.getElem?_map,ha];rfl) hb)
    · rw [List.getElem?_map] at ha
      cases hx:vs[i]? with
      | none=>rw [hx] at ha;cases ha
      | some x=>rw [hx] at ha;simp at ha;subst ha;exact (SV.holds_ren h).2 (k i x b hx hb)
theorem MO.holds_ren (h:Agree ρ μc μ) {mo:MO} {m:Option Nat × Nat} {fp:List Nat}:(mo.ren ρ).holds μ X m fp↔mo.holds μc X m fp:=by
  cases mo with
  | box ty cs=>simp only [MO.ren,MO.holds,acs_ren h]
  | _=>rfl
end ren
theorem ocat_of {P:Program} {f:FuncId} {args:List AV} {m0 m1:Nat→Nat × Option MO} {r:AV} {lent upds:List (Nat × (Nat × Option MO))} {fresh:List (Nat × Nat)} (ρ:Rn) (ρ':Nat→Option (Nat × Option Nat))
    (h:OCall P f args m0 r m1)
    (hinv:∀ k c s,ρ k=some (c,s)↔ρ' c=some (k,s))
    (hlent:∀ k c,ρ k=some (c,none)→(c,((m0 k).1,(m0 k).2.map (MO.ren ρ)))∈lent)
    (hfresh:∀ (k c n:Nat),ρ k=some (c,some n)→m0 k=(0,none)∧(c,n)∈fresh)
    (hnone:∀ k,ρ k=none→m0 k=(0,none)∧m1 k=(0,none))
    (hup:∀ c k s,ρ' c=some (k,s)→kIn upds c=true∧∀ mem,putsM mem upds c=(s.getD 0+(m1 k).1,(m1 k).2.map (MO.ren ρ)))
    (hup':∀ c,ρ' c=none→kIn upds c=false) :
    OCAt P f (args.map (AV.ren ρ)) lent fresh (r.ren ρ) upds:=by
  intro w G mem vs ho hl hf ha
  have hag:Agree ρ (fun k=>match ρ k with|some (c,none)=>G.μ c|_=>[]) G.μ:=by
    refine ⟨fun k c hk=>by simp [hk],fun k c n hk g=>?_,fun k hk=>by simp [hk]⟩
    have h1:=hf _ (hfresh k c n hk).2
    have h2:=ho.gens c
    simp only at h1
    simp [hk,h2,h1]
  have hren:∀ {k c:Nat},ρ k=some (c,none)→mem c=((m0 k).1,(m0 k).2.map (MO.ren ρ)):=fun {k c} hk=>hl _ (hlent k c hk)
  have hm0:∀ {k n mo},m0 k=(n,some mo)→∃ c,ρ k=some (c,none):=fun {k n mo} hk=>by
    cases hr:ρ k with
    | none=>rw [(hnone k hr).1] at hk;cases hk
    | some cs=>
      obtain ⟨c,s⟩:=cs
      cases s with
      | none=>exact ⟨c,rfl⟩
      | some n=>rw [(hfresh k c n hr).1] at hk;cases hk
  refine (h w ⟨fun k=>match ρ k with|some (c,none)=>G.μ c|_=>[],G.S,fun k=>match ρ k with|some (c,none)=>G.φ c|_=>[]⟩ vs ?_ ?_).mono ?_
  · exact {
      gens:=fun k=>by
        cases hr:ρ k with
        | none=>simp [(hnone k hr).1,hr]
        | some cs=>
          obtain ⟨c,s⟩:=cs
          cases s with
          | none=>have:=ho.gens c;rw [hren hr] at this;simpa [hr] using this
          | some n=>simp [(hfresh k c n hr).1,hr]
      mem:=fun k n mo hk=>by
        obtain ⟨c,hr⟩:=hm0 hk
        have h1:=hren hr
        rw [hk] at h1
        obtain ⟨g,m,k1,k2,k3⟩:=ho.mem c _ _ h1
        exact ⟨g,m,k1,by simpa [hr] using k2,by simpa [hr] using (MO.holds_ren hag).1 k3⟩
      apart:=fun k k' b hne h1 h2=>by
        cases hr:ρ k with
        | none=>simp [hr] at h1
        | some cs=>
          obtain ⟨c,s⟩:=cs
          cases s with
          | some n=>simp [hr] at h1
          | none=>
            cases hr':ρ k' with
            | none=>simp [hr'] at h2
            | some cs'=>
              obtain ⟨c',s'⟩:=cs'
              cases s' with
              | some n=>simp [hr'] at h2
              | none=>
                simp [hr] at h1;simp [hr'] at h2
                refine ho.apart c c' b (fun e=>hne ?_) h1 h2
                subst e
                have e1:=(hinv k c none).1 hr
                have e2:=(hinv k' c none).1 hr'
                rw [e1] at e2;simpa using e2
      stab:=fun k b hb hs=>by
        cases hr:ρ k with
        | none=>simp [hr] at hb
        | some cs=>
          obtain ⟨c,s⟩:=cs
          cases s with
          | some n=>simp [hr] at hb
          | none=>simp [hr] at hb;exact ho.stab c b hb hs
      own:=fun k b hb=>by
        cases hr:ρ k with
        | none=>simp [hr] at hb
        | some cs=>
          obtain ⟨c,s⟩:=cs
          cases s with
          | some n=>simp [hr] at hb
          | none=>simp [hr] at hb;exact ho.own c b hb
      sbd:=ho.sbd }
  · refine ⟨by have:=ha.1;simpa using this,fun i av v hav hv=>?_⟩
    exact (AV.holds_ren hag).1 (ha.2 i (av.ren ρ) v (by rw [List.getElem?_map,hav];rfl) hv)
  · rintro e w' ⟨v,G',rfl,hr,hobj,k1,k2,k3,k4,k5⟩
    have ob:∀ {k b},b∈(match ρ k with|some (c,none)=>G.φ c|_=>[])→∃ c,inL upds c∧b∈G.φ c:=fun {k b} hb=>by
      cases hr:ρ k with
      | none=>simp [hr] at hb
      | some cs=>
        obtain ⟨c,s⟩:=cs
        cases s with
        | some n=>simp [hr] at hb
        | none=>simp [hr] at hb;exact ⟨c,(hup c k none ((hinv k c none).1 hr)).1,hb⟩
    have hag':Agree ρ G'.μ (fun c=>match ρ' c with|some (k,none)=>G'.μ k|some (k,some n)=>G.μ c++G'.μ k|none=>G.μ c):=by
      refine ⟨fun k c hk=>by simp [(hinv k c none).1 hk],fun k c n hk g=>?_,fun k hk=>?_⟩
      · have h1:=hf _ (hfresh k c n hk).2
        have h2:=ho.gens c
        simp only at h1
        simp only [(hinv k c (some n)).1 hk]
        rw [List.getElem?_append_right (by omega)]
        congr 1;omega
      · have:=hobj.gens k
        rw [(hnone k hk).2] at this
        exact List.eq_nil_of_length_eq_zero this
    refine ⟨v,⟨fun c=>match ρ' c with|some (k,none)=>G'.μ k|some (k,some n)=>G.μ c++G'.μ k|none=>G.μ c,G'.S,fun c=>match ρ' c with|some (k,_)=>G'.φ k|none=>G.φ c⟩,rfl,(AV.holds_ren hag').2 hr,?_,k1,?_,?_,?_,?_⟩
    · have hle:Wd.le ⟨w,G.S⟩ ⟨w',G'.S⟩:=fun b hb=>⟨k1 b hb,k5.block b (ho.sbd b hb) fun ⟨k,hk⟩=>by
        obtain ⟨c,_,hc⟩:=ob hk
        exact ho.stab c b hc hb⟩
      have hmu:G.μ.le (fun c=>match ρ' c with|some (k,none)=>G'.μ k|some (k,some n)=>G.μ c++G'.μ k|none=>G.μ c):=fun c g x hx=>by
        cases hr':ρ' c with
        | none=>simpa [hr'] using hx
        | some ks=>
          obtain ⟨k,s⟩:=ks
          cases s with
          | none=>
            have h1:=(hinv k c none).2 hr'
            simp only [hr']
            exact k4 k g x (by simpa [h1] using hx)
          | some n=>
            simp only [hr']
            rw [List.getElem?_append_left (List.getElem?_eq_some_iff.1 hx).1];exact hx
      have out:∀ {c},ρ' c=none→∀ k,k∈G.φ c→w'.heap[k]?=w.heap[k]?:=fun {c} hc b hb=>k5.block b (ho.own c b hb) fun ⟨k,hk⟩=>by
        cases hr:ρ k with
        | none=>simp [hr] at hk
        | some cs=>
          obtain ⟨c',s⟩:=cs
          cases s with
          | some n=>simp [hr] at hk
          | none=>
            simp [hr] at hk
            refine ho.apart c c' b (fun e=>?_) hb hk
            subst e
            rw [(hinv k c none).1 hr] at hc;cases hc
      have fresh2:∀ {c k s b},ρ' c=some (k,s)→b∈G'.φ k→w.heap.size≤b∨∃ c',ρ' c'≠none∧b∈G.φ c':=fun {c k s b} hc hb=>by
        rcases k3 k b hb with h1 | ⟨k',h1⟩
        · exact .inl h1
        · right
          cases hr:ρ k' with
          | none=>simp [hr] at h1
          | some cs=>
            obtain ⟨c',s'⟩:=cs
            cases s' with
            | some n=>simp [hr] at h1
            | none=>simp [hr] at h1;exact ⟨c',by rw [(hinv k' c' none).1 hr];simp,h1⟩
      exact {
        gens:=fun c=>by
          cases hr':ρ' c with
          | none=>rw [putsM_out _ _ _ (hup' c hr')];simpa [hr'] using ho.gens c
          | some ks=>
            obtain ⟨k,s⟩:=ks
            rw [(hup c k s hr').2]
            cases s with
            | none=>simpa [hr'] using hobj.gens k
            | some n=>
              have h1:=hf _ (hfresh k c n ((hinv k c (some n)).2 hr')).2
              have h2:=ho.gens c
              simp only at h1
              simp [hr',hobj.gens k,h2,h1]
        mem:=fun c n mo hc=>by
          cases hr':ρ' c with
          | none=>
            rw [putsM_out _ _ _ (hup' c hr')] at hc
            obtain ⟨g,m,j1,j2,j3⟩:=ho.mem c n mo hc
            exact ⟨g,m,j1,by simpa [hr'] using j2,by simpa only [hr'] using j3.mono hmu hle (out hr')⟩
          | some ks=>
            obtain ⟨k,s⟩:=ks
            rw [(hup c k s hr').2] at hc
            cases hm1:m1 k with
            | mk n1 x=>
              cases x with
              | none=>rw [hm1] at hc;simp at hc
              | some mo1=>
                rw [hm1] at hc
                simp only [Option.map_some,Prod.mk.injEq,Option.some.injEq] at hc
                obtain ⟨rfl,rfl⟩:=hc
                obtain ⟨g,m,j1,j2,j3⟩:=hobj.mem k n1 mo1 hm1
                have j4:=(MO.holds_ren hag').2 j3
                cases s with
                | none=>exact ⟨g,m,by simp [j1],by simpa [hr'] using j2,by simpa only [hr'] using j4⟩
                | some n=>
                  have h1:=hf _ (hfresh k c n ((hinv k c (some n)).2 hr')).2
                  have h2:=ho.gens c
                  simp only at h1
                  refine ⟨n+g,m,by simp [j1];omega,?_,by simpa only [hr'] using j4⟩
                  simp only [hr']
                  rw [List.getElem?_append_right (by omega)]
                  rw [← j2];congr 1;omega
        apart:=fun c c' b hne h1 h2=>by
          cases hr:ρ' c with
          | none=>
            cases hr':ρ' c' with
            | none=>simp [hr] at h1;simp [hr'] at h2;exact ho.apart c c' b hne h1 h2
            | some ks=>
              obtain ⟨k,s⟩:=ks
              simp [hr] at h1;simp [hr'] at h2
              rcases fresh2 hr' h2 with h3 | ⟨c2,h3,h4⟩
              · have:=ho.own c b h1;omega
              · exact ho.apart c c2 b (fun e=>by subst e;exact h3 hr) h1 h4
          | some ks=>
            obtain ⟨k,s⟩:=ks
            cases hr':ρ' c' with
            | none=>
              simp [hr] at h1;simp [hr'] at h2
              rcases fresh2 hr h1 with h3 | ⟨c2,h3,h4⟩
              · have:=ho.own c' b h2;omega
              · exact ho.apart c' c2 b (fun e=>by subst e;exact h3 hr') h2 h4
            | some ks'=>
              obtain ⟨k',s'⟩:=ks'
              simp [hr] at h1;simp [hr'] at h2
              refine hobj.apart k k' b (fun e=>hne ?_) h1 h2
              subst e
              have e1:=(hinv k c s).2 hr
              have e2:=(hinv k c' s').2 hr'
              rw [e1] at e2;simp at e2;exact e2.1
        stab:=fun c b hb hs=>by
          cases hr:ρ' c with
          | none=>
            simp [hr] at hb
            rcases k2 b hs with h1|h1 | ⟨k,h1⟩
            · exact ho.stab c b hb h1
            · have:=ho.own c b hb;omega
            · cases hrk:ρ k with
              | none=>simp [hrk] at h1
              | some cs=>
                obtain ⟨c',s⟩:=cs
                cases s with
                | some n=>simp [hrk] at h1
                | none=>
                  simp [hrk] at h1
                  refine ho.apart c c' b (fun e=>?_) hb h1
                  subst e
                  rw [(hinv k c none).1 hrk] at hr;cases hr
          | some ks=>
            obtain ⟨k,s⟩:=ks
            simp [hr] at hb
            exact hobj.stab k b hb hs
        own:=fun c b hb=>by
          cases hr:ρ' c with
          | none=>simp [hr] at hb;exact Nat.lt_of_lt_of_le (ho.own c b hb) k5.size
          | some ks=>obtain ⟨k,s⟩:=ks;simp [hr] at hb;exact hobj.own k b hb
        sbd:=hobj.sbd }
    · intro b hb
      rcases k2 b hb with h1|h1 | ⟨k,h1⟩
      · exact .inl h1
      · exact .inr (.inl h1)
      · exact .inr (.inr (ob h1))
    · intro c b hb
      cases hr:ρ' c with
      | none=>simp [hr] at hb;exact .inl hb
      | some ks=>
        obtain ⟨k,s⟩:=ks
        simp [hr] at hb
        rcases k3 k b hb with h1 | ⟨k',h1⟩
        · exact .inr (.inl h1)
        · exact .inr (.inr (ob h1))
    · intro c g x hx
      cases hr':ρ' c with
      | none=>simpa [hr'] using hx
      | some ks=>
        obtain ⟨k,s⟩:=ks
        cases s with
        | none=>
          have h1:=(hinv k c none).2 hr'
          simp only [hr']
          exact k4 k g x (by simpa [h1] using hx)
        | some n=>
          simp only [hr']
          rw [List.getElem?_append_left (List.getElem?_eq_some_iff.1 hx).1];exact hx
    · exact ⟨k5.os,k5.tape,k5.output,k5.size,fun b hb hn=>k5.block b hb fun ⟨k,hk⟩=>hn (ob hk)⟩
end Go.Aw
