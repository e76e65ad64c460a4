/- The layer's texts Core, CoreB, CoreC, one behind the other. -/
import Derived.WalkKit
import Derived.Deep.Quiet
import Derived.Laws.CopyRow
import Derived.RangeFuncLeaves
import Derived.RangeFuncCalls
import Derived.OrdersIn
import Derived.LoopIn
/- THE ABSTRACT WALK, part 1: abstract values and states, what it means that a state stands for a frame and a world, and the rules for the forms of code. Nothing here speaks of a program. -/
namespace Go.Aw
open Go Go.RowKit
set_option linter.unusedVariables false
set_option linter.unusedSimpArgs false
structure Wd where
  w:World
  S:Nat→Prop
def Wd.le (x y:Wd):Prop:=∀ b,x.S b→y.S b∧y.w.heap[b]?=x.w.heap[b]?
theorem Wd.le.refl (x:Wd):x.le x:=fun _ h=>⟨h,rfl⟩
theorem Wd.le.trans {x y z:Wd} (h:x.le y) (k:y.le z):x.le z:=fun b hb=>⟨(k b (h b hb).1).1,((k b (h b hb).1).2).trans (h b hb).2⟩
structure PVal where
  holds:Wd→Value→Prop
  mono:∀ {x y v},x.le y→holds x v→holds y v
  one:∀ {x v},holds x v→v.oneCell'=true
def PVal.v (c:Value):PVal:=⟨fun _ v=>v=c∧c.oneCell'=true,fun _ h=>h,fun h=>by obtain ⟨rfl,h⟩:=h;exact h⟩
abbrev PVal.i (n:Int):PVal:=.v (.int .i64 n)
abbrev PVal.k (k:IntKind) (n:Int):PVal:=.v (.int k n)
abbrev PVal.b (b:Bool):PVal:=.v (.bool b)
def All2 {α β:Type} (R:α→β→Prop) (l:List α) (m:List β):Prop:=l.length=m.length∧∀ (i:Nat) a b,l[i]?=some a→m[i]?=some b→R a b
theorem All2.mono {α β:Type} {R R':α→β→Prop} {l:List α} {m:List β} (h:All2 R l m) (hr:∀ a b,R a b→R' a b):All2 R' l m:=⟨h.1,fun i a b h1 h2=>hr _ _ (h.2 i a b h1 h2)⟩
theorem All2.nil {α β:Type} {R:α→β→Prop}:All2 R [] []:=⟨rfl,fun i a b h _=>by simp at h⟩
theorem All2.cons {α β:Type} {R:α→β→Prop} {a:α} {b:β} {l:List α} {m:List β} (h:R a b) (k:All2 R l m):All2 R (a::l) (b::m):=by
  refine ⟨by simp [k.1],fun i x y hx hy=>?_⟩
  cases i with
  | zero=>simp at hx hy;subst hx;subst hy;exact h
  | succ i=>simp at hx hy;exact k.2 i x y hx hy
theorem All2.cons_inv {α β:Type} {R:α→β→Prop} {a:α} {l:List α} {m:List β} (h:All2 R (a::l) m):∃ b m',m=b::m'∧R a b∧All2 R l m':=by
  cases m with
  | nil=>have:=h.1;simp at this
  | cons b m'=>exact ⟨b,m',rfl,h.2 0 a b rfl rfl,⟨by have:=h.1;simpa using this,fun i x y hx hy=>h.2 (i+1) x y (by simpa using hx) (by simpa using hy)⟩⟩
theorem All2.nil_inv {α β:Type} {R:α→β→Prop} {m:List β} (h:All2 R [] m):m=[]:=by
  have:=h.1;simpa using this.symm
theorem All2.get {α β:Type} {R:α→β→Prop} {l:List α} {m:List β} (h:All2 R l m) {i:Nat} {a:α} (ha:l[i]?=some a):∃ b,m[i]?=some b∧R a b:=by
  have hi:i < l.length:=(List.getElem?_eq_some_iff.1 ha).1
  have hm:i < m.length:=by rw [← h.1];exact hi
  exact ⟨m[i],by simp [hm],h.2 i a m[i] ha (by simp [hm])⟩
theorem All2.append {α β:Type} {R:α→β→Prop} {l l':List α} {m m':List β} (h:All2 R l m) (k:All2 R l' m'):All2 R (l++l') (m++m'):=by
  refine ⟨by simp [h.1,k.1],fun i a b ha hb=>?_⟩
  by_cases hi:i < l.length
  · rw [List.getElem?_append_left hi] at ha
    rw [List.getElem?_append_left (h.1 ▸ hi)] at hb
    exact h.2 i a b ha hb
  · rw [List.getElem?_append_right (by omega)] at ha
    rw [List.getElem?_append_right (by rw [← h.1];omega),← h.1] at hb
    exact k.2 _ a b ha hb
theorem All2.take {α β:Type} {R:α→β→Prop} {l:List α} {m:List β} (h:All2 R l m) (n:Nat):All2 R (l.take n) (m.take n):=by
  refine ⟨by simp [h.1],fun i a b ha hb=>?_⟩
  rw [List.getElem?_take] at ha hb
  split at ha<;>simp_all
  rename_i hi
  exact h.2 i a b ha hb
theorem All2.drop {α β:Type} {R:α→β→Prop} {l:List α} {m:List β} (h:All2 R l m) (n:Nat):All2 R (l.drop n) (m.drop n):=
  ⟨by simp [h.1],fun i a b ha hb=>h.2 (n+i) a b (by simpa using ha) (by simpa using hb)⟩
def RowsAt (X:Wd) (cs:Array Value) (off es:Nat) (rows:List (List PVal)):Prop:=
  ∀ i row,rows[i]?=some row→row.length=es∧∀ j p,row[j]?=some p→∃ c,cs[off+i * es+j]?=some c∧p.holds X c
def PVal.sl (es:Nat) (rows:List (List PVal)) (ex:Bool):PVal where
  holds X v:=∃ base cap,v=.slice base rows.length cap∧rows.length≤cap∧cap≤maxLen∧(ex=true→cap=rows.length)∧
    match base with
    | none=>rows=[]∧cap=0
    | some a=>rows=[]∨(a.spot=none∧X.S a.block∧∃ cs ty fr,X.w.heap[a.block]?=some (.cells cs ty fr)∧RowsAt X cs a.off es rows)
  mono:=by
    rintro x y v hle ⟨base,cap,h1,h2,h3,h4,h5⟩
    refine ⟨base,cap,h1,h2,h3,h4,?_⟩
    cases base with
    | none=>exact h5
    | some a=>
      rcases h5 with h5 | ⟨g1,g2,cs,ty,fr,g3,g4⟩
      · exact .inl h5
      refine .inr ⟨g1,(hle _ g2).1,cs,ty,fr,(hle _ g2).2.trans g3,fun i row hr=>⟨(g4 i row hr).1,fun j p hp=>?_⟩⟩
      obtain ⟨c,hc,hh⟩:=(g4 i row hr).2 j p hp
      exact ⟨c,hc,p.mono hle hh⟩
  one:=by rintro x v ⟨base,cap,rfl,_⟩;rfl
inductive AC where
  | p (x:PVal)
  | ptr (o g off:Nat)
  | osl (o g es lo len:Nat)
  | asl (o g off len cap:Nat)
  | fn (f o g:Nat) (pre post:List PVal)
  | bm (f o g off:Nat)
abbrev Mu:=Nat→List (Option Nat × Nat)
def Mu.le (m m':Mu):Prop:=∀ (o g:Nat) x,(m o)[g]?=some x→(m' o)[g]?=some x
theorem Mu.le.refl (m:Mu):m.le m:=fun _ _ _ h=>h
theorem Mu.le.trans {a b c:Mu} (h:a.le b) (k:b.le c):a.le c:=fun o g x hx=>k o g x (h o g x hx)
def Mu.none:Mu:=fun _=>[]
theorem Mu.none_le (m:Mu):Mu.none.le m:=fun o g x h=>by simp [Mu.none] at h
def AC.holds (μ:Mu) (X:Wd):AC→Value→Prop
  | .p x,v=>x.holds X v
  | .ptr o g off,v=>∃ b c,(μ o)[g]?=some (some b,c)∧v=.pointer (some ⟨b,off,none⟩)
  | .osl o g es lo len,v=>∃ m c,(μ o)[g]?=some (m,c)∧lo+len≤c∧v=.slice (m.map fun b=>⟨b,lo * es,none⟩) len (c - lo)
  | .asl o g off len cap,v=>∃ b c,(μ o)[g]?=some (some b,c)∧v=.slice (some ⟨b,off,none⟩) len cap
  | .fn f o g pre post,v=>∃ (vs us:List Value) (b c:Nat),(μ o)[g]?=some (some b,c)∧v=.func (.func f) #[] (vs++.pointer (some ⟨b,0,none⟩)::us).toArray∧All2 (fun p c=>p.holds X c) pre vs∧All2 (fun p c=>p.holds X c) post us
  | .bm f o g off,v=>∃ b c,(μ o)[g]?=some (some b,c)∧v=.func (.func f) #[.pointer (some ⟨b,off,none⟩)] #[]
theorem AC.holds.mono {μ μ':Mu} {X Y:Wd} {c:AC} {v:Value} (h:c.holds μ X v) (hm:μ.le μ') (hl:X.le Y):c.holds μ' Y v:=by
  cases c with
  | p x=>exact x.mono hl h
  | ptr o g off=>obtain ⟨b,c,h1,h2⟩:=h;exact ⟨b,c,hm _ _ _ h1,h2⟩
  | osl o g es lo len=>obtain ⟨m,c,h1,h2⟩:=h;exact ⟨m,c,hm _ _ _ h1,h2⟩
  | asl o g off len cap=>obtain ⟨b,c,h1,h2⟩:=h;exact ⟨b,c,hm _ _ _ h1,h2⟩
  | fn f o g pre post=>obtain ⟨vs,us,b,c,h1,h2,h3,h4⟩:=h;exact ⟨vs,us,b,c,hm _ _ _ h1,h2,h3.mono fun p _ hp=>p.mono hl hp,h4.mono fun p _ hp=>p.mono hl hp⟩
  | bm f o g off=>obtain ⟨b,c,h1,h2⟩:=h;exact ⟨b,c,hm _ _ _ h1,h2⟩
theorem AC.holds.one {μ:Mu} {X:Wd} {c:AC} {v:Value} (h:c.holds μ X v):v.oneCell'=true:=by
  cases c with
  | p x=>exact x.one h
  | ptr o g off=>obtain ⟨b,c,h1,rfl⟩:=h;rfl
  | osl o g es lo len=>obtain ⟨m,c,h1,_,rfl⟩:=h;rfl
  | asl o g off len cap=>obtain ⟨b,c,h1,rfl⟩:=h;rfl
  | fn f o g pre post=>obtain ⟨vs,us,b,c,h1,rfl,_⟩:=h;rfl
  | bm f o g off=>obtain ⟨b,c,h1,rfl⟩:=h;rfl
inductive SV where
  | one (c:AC)
  | agg (cs:List AC)
def SV.holds (μ:Mu) (X:Wd):SV→Value→Prop
  | .one c,v=>c.holds μ X v
  | .agg cs,v=>∃ arr:List Value,v=.agg arr.toArray∧All2 (AC.holds μ X) cs arr
theorem SV.holds.mono {μ μ':Mu} {X Y:Wd} {c:SV} {v:Value} (h:c.holds μ X v) (hm:μ.le μ') (hl:X.le Y):c.holds μ' Y v:=by
  cases c with
  | one c=>exact AC.holds.mono h hm hl
  | agg cs=>obtain ⟨arr,rfl,h⟩:=h;exact ⟨arr,rfl,h.mono fun _ _ k=>k.mono hm hl⟩
def SV.cells:SV→List AC
  | .one c=>[c]
  | .agg cs=>cs
theorem SV.holds.cells {μ:Mu} {X:Wd} {c:SV} {v:Value} (h:c.holds μ X v):All2 (AC.holds μ X) c.cells v.cells.toList:=by
  cases c with
  | one c=>
    have h1:v.cells = #[v]:=by
      have:=AC.holds.one h
      cases v<;>simp_all [Value.oneCell',Value.cells]
    rw [h1];exact .cons h .nil
  | agg cs=>obtain ⟨arr,rfl,h⟩:=h;simpa [Value.cells,SV.cells] using h
inductive AV where
  | un
  | s (v:SV)
  | tup (vs:List SV)
abbrev AV.o (c:AC):AV:=.s (.one c)
abbrev AV.p (x:PVal):AV:=.s (.one (.p x))
abbrev AV.a (cs:List AC):AV:=.s (.agg cs)
def AV.holds (μ:Mu) (X:Wd):AV→Value→Prop
  | .un,_=>True
  | .s q,v=>q.holds μ X v
  | .tup vs,v=>∃ arr:List Value,v=.tuple arr.toArray∧All2 (SV.holds μ X) vs arr
theorem AV.holds.mono {μ μ':Mu} {X Y:Wd} {c:AV} {v:Value} (h:c.holds μ X v) (hm:μ.le μ') (hl:X.le Y):c.holds μ' Y v:=by
  cases c with
  | un=>trivial
  | s q=>exact SV.holds.mono (c:=q) h hm hl
  | tup vs=>obtain ⟨arr,rfl,h⟩:=h;exact ⟨arr,rfl,h.mono fun _ _ k=>k.mono hm hl⟩
structure AObj where
  holds:Wd→Nat→List Nat→Prop
  mono:∀ {x y b fp},x.le y→(∀ k,k∈fp→y.w.heap[k]?=x.w.heap[k]?)→holds x b fp→holds y b fp
inductive MO where
  | box (ty:TypeId) (cs:List AC)
  | buf (ty:TypeId) (es:Nat) (rows:List (List PVal))
  | frz (ty:TypeId) (es:Nat) (rows:List (List PVal))
  | abs (A:AObj)
def MO.holds (μ:Mu) (X:Wd):MO→Option Nat × Nat→List Nat→Prop
  | .box ty cs,m,fp=>∃ b arr,m.1=some b∧fp=[b]∧X.w.heap[b]?=some (.cells (List.toArray arr) ty (0,0))∧All2 (AC.holds μ X) cs arr
  | .buf ty es rows,m,fp=>0 < es∧m.2≤maxLen∧rows.length≤m.2∧((m.1=none∧m.2=0∧fp=[])∨
      ∃ b arr,m.1=some b∧fp=[b]∧X.w.heap[b]?=some (.cells arr ty (0,0))∧arr.size=m.2 * es∧RowsAt X arr 0 es rows)
  | .frz ty es rows,m,fp=>fp=[]∧m.2≤maxLen∧rows.length≤m.2∧((m.1=none∧m.2=0)∨
      ∃ b arr,m.1=some b∧X.S b∧X.w.heap[b]?=some (.cells arr ty (0,0))∧RowsAt X arr 0 es rows)
  | .abs A,m,fp=>∃ b,m.1=some b∧A.holds X b fp
theorem MO.holds.mono {μ μ':Mu} {X Y:Wd} {c:MO} {m:Option Nat × Nat} {fp:List Nat} (h:c.holds μ X m fp) (hm:μ.le μ') (hl:X.le Y) (hf:∀ k,k∈fp→Y.w.heap[k]?=X.w.heap[k]?) :
    c.holds μ' Y m fp:=by
  cases c with
  | box ty cs=>
    obtain ⟨b,arr,h1,h2,h3,h4⟩:=h
    exact ⟨b,arr,h1,h2,(hf b (by simp [h2])).trans h3,h4.mono fun _ _ k=>k.mono hm hl⟩
  | buf ty es rows=>
    obtain ⟨h0,h1,h2,h3⟩:=h
    refine ⟨h0,h1,h2,?_⟩
    rcases h3 with h3 | ⟨b,arr,g1,g2,g3,g4,g5⟩
    · exact .inl h3
    · refine .inr ⟨b,arr,g1,g2,(hf b (by simp [g2])).trans g3,g4,fun i row hr=>⟨(g5 i row hr).1,fun j p hp=>?_⟩⟩
      obtain ⟨c,hc,hh⟩:=(g5 i row hr).2 j p hp
      exact ⟨c,hc,p.mono hl hh⟩
  | frz ty es rows=>
    obtain ⟨h0,h1,h2,h3⟩:=h
    refine ⟨h0,h1,h2,?_⟩
    rcases h3 with h3 | ⟨b,arr,g1,g2,g3,g5⟩
    · exact .inl h3
    · refine .inr ⟨b,arr,g1,(hl b g2).1,(hl b g2).2.trans g3,fun i row hr=>⟨(g5 i row hr).1,fun j p hp=>?_⟩⟩
      obtain ⟨c,hc,hh⟩:=(g5 i row hr).2 j p hp
      exact ⟨c,hc,p.mono hl hh⟩
  | abs A=>obtain ⟨b,h1,h2⟩:=h;exact ⟨b,h1,A.mono hl hf h2⟩
structure St where
  env:Nat→AV
  mem:Nat→Nat × Option MO
def St.set (σ:St) (d:Option Nat) (v:AV):St:=
  match d with
  | none=>σ
  | some d=>{ σ with env:=fun t=>if t=d then v else σ.env t }
def St.put (σ:St) (o:Nat) (m:Nat × Option MO):St:={ σ with mem:=fun x=>if x=o then m else σ.mem x }
structure Ctx where
  P:Program
  w0:World
  F:Nat→Prop
  S0:Nat→Prop
  N:Nat
  ro:Option Nat
  M0:Mu
def fz (ro:Option Nat):Fence:={ Fence.wide with round:=ro }
def markOf (b:Nat):Deferred:={ target:=.collected b,args:=#[] }
structure Gh where
  μ:Mu
  S:Nat→Prop
  φ:Nat→List Nat
structure TL (w' w:World):Prop where
  eq:w'.tape=w.tape
  le:w.drawn≤w'.drawn
theorem TL.trans {a b c:World} (h:TL c b) (k:TL b a):TL c a:=⟨h.eq.trans k.eq,Nat.le_trans k.le h.le⟩
theorem TL.same {w' w:World} (h1:w'.tape=w.tape:=by rfl) (h2:w.drawn≤w'.drawn:=by first|exact Nat.le_refl _|exact Nat.le_add_right _ _|exact Nat.le_of_eq rfl):TL w' w:=⟨h1,h2⟩
structure Fr (C:Ctx) (w:World):Prop where
  os:w.os=C.w0.os
  tape:TL w C.w0
  output:w.output=C.w0.output
  size:C.w0.heap.size≤w.heap.size
  block:∀ k,k < C.w0.heap.size→¬ C.F k→w.heap[k]?=C.w0.heap[k]?
structure RelG (C:Ctx) (σ:St) (a:Act) (w:World) (G:Gh):Prop where
  size:a.tmps.size=C.N
  defers:∀ d,d∈a.defers→∃ b,d=markOf b∧C.w0.heap.size≤b∧b < w.heap.size∧w.heap[b]?=some (.deferred (some []))∧¬ G.S b∧∀ o,b ∉ G.φ o
  dnod:a.defers.Nodup
  mle:C.M0.le G.μ
  env:∀ t,(σ.env t).holds G.μ ⟨w,G.S⟩ (a.tmps.getD t undef)
  gens:∀ o,(G.μ o).length=(σ.mem o).1
  mem:∀ o n mo,σ.mem o=(n,some mo)→∃ g m,n=g+1∧(G.μ o)[g]?=some m∧mo.holds G.μ ⟨w,G.S⟩ m (G.φ o)
  apart:∀ o o' b,o≠o'→b∈G.φ o→b∈G.φ o'→False
  stab:∀ o b,b∈G.φ o→¬ G.S b
  own:∀ o b,b∈G.φ o→(C.w0.heap.size≤b∨C.F b)∧b < w.heap.size
  sbd:∀ b,G.S b→b < w.heap.size∧(C.S0 b∨C.w0.heap.size≤b∨C.F b)
  ssub:∀ b,C.S0 b→G.S b
  fr:Fr C w
def Rel (C:Ctx) (σ:St) (a:Act) (w:World):Prop:=∃ G,RelG C σ a w G
def AW (C:Ctx) (c:Code) (Q:Exit→St→Prop) (σ:St):Prop:=
  ∀ a w,Rel C σ a w→c.wpIn (fz C.ro) 0 C.P (fun e a' w'=>∃ σ',Q e σ'∧Rel C σ' a' w') a w
def AWs (C:Ctx):List Code→(Exit→St→Prop)→St→Prop
  | [],Q,σ=>Q .normal σ
  | c::k,Q,σ=>AW C c (fun e s=>match e with | .normal=>AWs C k Q s|e=>Q e s) σ
def blk (id:Nat) (K:St→Prop) (Q:Exit→St→Prop):Exit→St→Prop
  | .normal,σ=>K σ
  | .exit i,σ=>if i=id then K σ else Q (.exit i) σ
  | e,σ=>Q e σ
section rules
variable {C:Ctx} {Q:Exit→St→Prop} {σ:St} {c r x y:Code} {k:List Code}
theorem aw_mono {Q':Exit→St→Prop} (h:AW C c Q σ) (hq:∀ e s,Q e s→Q' e s):AW C c Q' σ:=
  fun a w hr=>wpIn_mono (h a w hr) fun e a' w' ⟨s,q,r⟩=>⟨s,hq _ _ q,r⟩
theorem aws_mono {Q':Exit→St→Prop} (hq:∀ e s,Q e s→Q' e s):∀ {k:List Code} {σ:St},AWs C k Q σ→AWs C k Q' σ
  | [],_,h=>hq _ _ h
  | _::_,_,h=>aw_mono h fun e s q=>by
    cases e with
    | normal=>exact aws_mono hq q
    | _=>exact hq _ _ q
theorem aws_one (h:AWs C [c] Q σ):AW C c Q σ:=aw_mono h fun e s q=>by cases e<;>exact q
theorem aws_seq (h:AWs C (x::y::k) Q σ):AWs C (.seq x y::k) Q σ:=by
  intro a w hr
  refine wpIn_seq (wpIn_mono (h a w hr) ?_)
  rintro e a' w' ⟨s,q,r⟩
  cases e with
  | normal=>exact q a' w' r
  | _=>exact ⟨s,q,r⟩
theorem aws_skip (h:AWs C k Q σ):AWs C (.skip::k) Q σ:=fun a w hr=>wpIn_skip ⟨σ,h,hr⟩
theorem aws_ret (h:Q .ret σ):AWs C (.ret::k) Q σ:=fun a w hr=>wpIn_ret ⟨σ,h,hr⟩
theorem aws_exit {id:Nat} (h:Q (.exit id) σ):AWs C (.exit id::k) Q σ:=fun a w hr=>wpIn_exit ⟨σ,h,hr⟩
theorem aws_goto {l:Nat} (h:Q (.goto l) σ):AWs C (.goto l::k) Q σ:=fun a w hr=>wpIn_goto ⟨σ,h,hr⟩
theorem aws_label {l:Nat} (h:AWs C k Q σ):AWs C (.label l::k) Q σ:=fun a w hr=>wpIn_label ⟨σ,h,hr⟩
theorem aws_block {id:Nat} (h:AWs C [c] (blk id (AWs C k Q) Q) σ):AWs C (.block id c::k) Q σ:=by
  intro a w hr
  refine wpIn_block (wpIn_mono (h a w hr) ?_)
  rintro e a' w' ⟨s,q,r⟩
  cases e with
  | exit i=>
    by_cases hi:i=id
    · subst hi
      simp only [Exit.inBlock,if_true]
      have q':AWs C k Q s:=by simpa [blk] using q
      exact ⟨s,q',r⟩
    · simp only [Exit.inBlock,hi,if_false]
      have q':Q (.exit i) s:=by simpa [blk,hi] using q
      exact ⟨s,q',r⟩
  | normal=>exact ⟨s,q,r⟩
  | _=>exact ⟨s,q,r⟩
theorem blk_normal {id:Nat} {K:St→Prop} (h:K σ):blk id K Q .normal σ:=h
theorem blk_exit {id:Nat} {K:St→Prop} (h:K σ):blk id K Q (.exit id) σ:=by simpa [blk] using h
theorem blk_ret {id:Nat} {K:St→Prop} (h:Q .ret σ):blk id K Q .ret σ:=h
theorem aw_loop {ι:Type} (I:ι→St→Prop) (m:ι→Nat) (i₀:ι) (h₀:I i₀ σ)
    (round:∀ i s,I i s→AW C c (fun e s'=>match e with | .normal=>∃ j,m j < m i∧I j s'|e=>Q e s') s):AW C (.loop c) Q σ:=by
  intro a w hr b k cs hro hb hroom
  have key:∀ n i s a w,m i=n→I i s→Rel C s a w→
      ∃ e a' w',(∃ σ',Q e σ'∧Rel C σ' a' w')∧ArrivesIn (Machine.fenced C.P (fz C.ro)) C.P (lone (b.atR a (.code c::.inLoop c::k)) cs w) b k cs e a' w':=by
    intro n
    induction n using Nat.strongRecOn with
    | _ n ih=>
      intro i s a w hn hI hr
      obtain ⟨e,a₁,w₁,⟨s₁,hq,hr₁⟩,harr⟩:=round i s hI a w hr b (.inLoop c::k) cs hro hb hroom
      cases e with
      | normal=>
        obtain ⟨j,hlt,hI₁⟩:=hq
        obtain ⟨e₂,a₂,w₂,hq₂,harr₂⟩:=ih (m j) (hn ▸ hlt) j s₁ a₁ w₁ rfl hI₁ hr₁
        exact ⟨e₂,a₂,w₂,hq₂,.of_steps (StepsIn.trans harr (.one (fenced_calm hb hroom rfl) stepR_inLoop)) harr₂⟩
      | exit id=>exact ⟨_,a₁,w₁,⟨s₁,hq,hr₁⟩,.pass (x:=.inLoop c) rfl (fun _ _=>.inl (by simp)) harr⟩
      | goto l=>exact ⟨_,a₁,w₁,⟨s₁,hq,hr₁⟩,.pass (x:=.inLoop c) rfl (fun _ _=>.inl (by simp)) harr⟩
      | ret=>exact ⟨_,a₁,w₁,⟨s₁,hq,hr₁⟩,.pass (x:=.inLoop c) rfl (fun _ _=>.inl (by simp)) harr⟩
      | panic ch=>exact ⟨_,a₁,w₁,⟨s₁,hq,hr₁⟩,.pass (x:=.inLoop c) rfl (fun _ _=>.inl (by simp)) harr⟩
      | outgrown=>exact ⟨_,a₁,w₁,⟨s₁,hq,hr₁⟩,.pass (x:=.inLoop c) rfl (fun _ _=>.inl (by simp)) harr⟩
  obtain ⟨e,a',w',hq,harr⟩:=key _ i₀ σ a w rfl h₀ hr
  exact ⟨e,a',w',hq,.of_steps (.one (fenced_calm hb hroom rfl) stepR_loop) harr⟩
theorem aws_loop {ι:Type} {id:Nat} (I:ι→St→Prop) (m:ι→Nat) (i₀:ι) (h₀:I i₀ σ)
    (round:∀ i s,I i s→AWs C [c] (fun e s'=>match e with | .normal=>∃ j,m j < m i∧I j s'|e=>blk id (AWs C k Q) Q e s') s):AWs C (.block id (.loop c)::k) Q σ:=
  aws_block (aw_mono (aw_loop (Q:=blk id (AWs C k Q) Q) I m i₀ h₀ fun i s hI=>aw_mono (aws_one (round i s hI)) fun e s' q=>by cases e<;>exact q) fun e s' q=>by cases e<;>exact q)
theorem aws_cond {cd:Operand} {t:Bool} (hc:∀ G a w,RelG C σ a w G→a.eval cd=.bool t) (ht:t=true→AWs C (x::k) Q σ) (hf:t=false→AWs C (y::k) Q σ) :
    AWs C (.cond cd x y::k) Q σ:=by
  intro a w hr
  obtain ⟨G,hG⟩:=hr
  refine wpIn_cond_split (hc G a w hG) (fun h=>?_) (fun h=>?_)
  · exact ht h a w ⟨G,hG⟩
  · exact hf h a w ⟨G,hG⟩
end rules
end Go.Aw
/- THE ABSTRACT WALK, part 2: how a state goes on; operations; regions, drawn or not; contracts and calls. Nothing here speaks of a program. -/
namespace Go.Aw
open Go Go.RowKit
set_option linter.unusedVariables false
set_option linter.unusedSimpArgs false
def dOk (C:Ctx) (d:Option Nat):Bool:=match d with|none=>true|some d=>Nat.ble (d+1) C.N
section upd
variable {C:Ctx} {σ:St} {a:Act} {w w':World} {G:Gh}
theorem RelG.setv (h:RelG C σ a w G) {d:Option Nat} {val:AV} {v:Value} (hd:dOk C d=true) (hv:val.holds G.μ ⟨w,G.S⟩ v):RelG C (σ.set d val) (a.put d v) w G:=by
  cases d with
  | none=>exact h
  | some d=>
    have hdn:d < a.tmps.size:=by rw [h.size];have:=Nat.le_of_ble_eq_true hd;omega
    exact { h with
      size:=by simp [Act.put,h.size]
      env:=fun t=>by
        simp only [St.set,Act.put]
        by_cases ht:t=d
        · subst ht;simpa [hdn] using hv
        · have:=h.env t
          simp only [ht,if_false]
          have e:(a.tmps.setIfInBounds d v).getD t undef=a.tmps.getD t undef:=by
            simp [Array.getElem?_setIfInBounds_ne (fun e=>ht e.symm)]
          rw [e];exact this }
structure Quiet (w w':World):Prop where
  os:w'.os=w.os
  tape:TL w' w
  output:w'.output=w.output
  size:w.heap.size≤w'.heap.size
  block:∀ k,k < w.heap.size→w'.heap[k]?=w.heap[k]?
theorem Quiet.refl (w:World):Quiet w w:=⟨rfl,.same,rfl,Nat.le_refl _,fun _ _=>rfl⟩
theorem Quiet.drew (w:World):Quiet w w.drew:=⟨rfl,.same,rfl,Nat.le_refl _,fun _ _=>rfl⟩
theorem Quiet.of_below (h:Below w.heap.size w w') (hd:w.drawn≤w'.drawn):Quiet w w':=⟨h.os,⟨h.tape,hd⟩,h.output,h.size,h.block⟩
theorem Quiet.alloc (w:World) (o:Obj):Quiet w (w.alloc o):=⟨rfl,.same,rfl,by simp,fun k hk=>Below.heap_alloc w o k hk⟩
theorem RelG.wle (h:RelG C σ a w G) {S':Nat→Prop} (hs:∀ b,G.S b→S' b) (hb:∀ k,k < w.heap.size→G.S k→w'.heap[k]?=w.heap[k]?):Wd.le ⟨w,G.S⟩ ⟨w',S'⟩:=
  fun b hb'=>⟨hs b hb',hb b (h.sbd b hb').1 hb'⟩
theorem RelG.world (h:RelG C σ a w G) (hw:Quiet w w') (T:Nat→Prop) (hT:∀ b,T b→w.heap.size≤b∧b < w'.heap.size) :
    RelG C σ a w' { G with S:=fun b=>G.S b∨T b }:=by
  have hle:Wd.le ⟨w,G.S⟩ ⟨w',fun b=>G.S b∨T b⟩:=h.wle (fun _=>.inl) (fun k hk _=>hw.block k hk)
  exact {
    size:=h.size
    defers:=fun d hd=>by
      obtain ⟨b,rfl,h1,h2,h3,h4,h5⟩:=h.defers d hd
      exact ⟨b,rfl,h1,Nat.lt_of_lt_of_le h2 hw.size,(hw.block b h2).trans h3,fun hs=>hs.elim h4 fun ht=>absurd (hT b ht).1 (by omega),h5⟩
    dnod:=h.dnod
    mle:=h.mle
    env:=fun t=>(h.env t).mono (Mu.le.refl _) hle
    gens:=h.gens
    mem:=fun o n mo ho=>by
      obtain ⟨g,m,hn,hm,hh⟩:=h.mem o n mo ho
      exact ⟨g,m,hn,hm,hh.mono (Mu.le.refl _) hle fun k hk=>hw.block k (h.own o k hk).2⟩
    apart:=h.apart
    stab:=fun o b hb hs=>by
      rcases hs with hs|hs
      · exact h.stab o b hb hs
      · have:=(h.own o b hb).2;have:=(hT b hs).1;omega
    own:=fun o b hb=>⟨(h.own o b hb).1,Nat.lt_of_lt_of_le (h.own o b hb).2 hw.size⟩
    sbd:=fun b hb=>by
      rcases hb with hb|hb
      · exact ⟨Nat.lt_of_lt_of_le (h.sbd b hb).1 hw.size,(h.sbd b hb).2⟩
      · exact ⟨(hT b hb).2,.inr (.inl (Nat.le_trans h.fr.size (hT b hb).1))⟩
    ssub:=fun b hb=>.inl (h.ssub b hb)
    fr:=⟨hw.os.trans h.fr.os,hw.tape.trans h.fr.tape,hw.output.trans h.fr.output,Nat.le_trans h.fr.size hw.size,fun k hk hf=>(hw.block k (Nat.lt_of_lt_of_le hk h.fr.size)).trans (h.fr.block k hk hf)⟩ }
theorem RelG.world' (h:RelG C σ a w G) (hw:Quiet w w'):RelG C σ a w' G:=by
  have:=h.world hw (fun _=>False) (fun _ h=>h.elim)
  have e:(fun b=>G.S b∨False)=G.S:=by funext b;simp
  simpa [e] using this
theorem RelG.upd (h:RelG C σ a w G) {o n':Nat} {mo':Option MO} {μo:List (Option Nat × Nat)} {fp':List Nat}
    (hμ:∀ (g:Nat) x,(G.μ o)[g]?=some x→μo[g]?=some x) (hlen:μo.length=n')
    (hos:w'.os=w.os) (htp:TL w' w) (hout:w'.output=w.output) (hsz:w.heap.size≤w'.heap.size)
    (hblk:∀ k,k < w.heap.size→k ∉ G.φ o→w'.heap[k]?=w.heap[k]?)
    (hfp:∀ b,b∈fp'→(b∈G.φ o∨w.heap.size≤b)∧b < w'.heap.size)
    (hmo:∀ mo,mo'=some mo→∃ g m,n'=g+1∧μo[g]?=some m∧mo.holds (fun x=>if x=o then μo else G.μ x) ⟨w',G.S⟩ m fp') :
    RelG C (σ.put o (n',mo')) a w' ⟨fun x=>if x=o then μo else G.μ x,G.S,fun x=>if x=o then fp' else G.φ x⟩:=by
  have hmu:G.μ.le (fun x=>if x=o then μo else G.μ x):=fun x g y hy=>by
    by_cases hx:x=o
    · subst hx;simpa using hμ g y hy
    · simpa [hx] using hy
  have hle:Wd.le ⟨w,G.S⟩ ⟨w',G.S⟩:=h.wle (fun _ hb=>hb) (fun k hk hs=>hblk k hk fun hin=>h.stab o k hin hs)
  exact {
    size:=h.size
    defers:=fun d hd=>by
      obtain ⟨b,rfl,h1,h2,h3,h4,h5⟩:=h.defers d hd
      refine ⟨b,rfl,h1,Nat.lt_of_lt_of_le h2 hsz,(hblk b h2 (h5 o)).trans h3,h4,fun x hx=>?_⟩
      by_cases hxo:x=o<;>simp only [hxo,if_true,if_false] at hx
      · rcases (hfp b hx).1 with hb|hb
        · exact h5 o hb
        · omega
      · exact h5 x hx
    dnod:=h.dnod
    mle:=h.mle.trans hmu
    env:=fun t=>(h.env t).mono hmu hle
    gens:=fun x=>by
      by_cases hx:x=o
      · subst hx;simpa [St.put] using hlen
      · simpa [St.put,hx] using h.gens x
    mem:=fun x n mo hx=>by
      by_cases hxo:x=o
      · subst hxo
        simp only [St.put,if_true,Prod.mk.injEq] at hx
        obtain ⟨rfl,hx⟩:=hx
        simpa using hmo mo hx
      · simp only [St.put,hxo,if_false] at hx
        obtain ⟨g,m,hn,hm,hh⟩:=h.mem x n mo hx
        refine ⟨g,m,hn,by simpa [hxo] using hm,?_⟩
        simp only [hxo,if_false]
        exact hh.mono hmu hle fun k hk=>hblk k (h.own x k hk).2 fun hin=>h.apart x o k hxo hk hin
    apart:=fun x y b hxy hbx hby=>by
      by_cases hx:x=o<;>by_cases hy:y=o<;>simp only [hx,hy,if_true,if_false] at hbx hby
      · exact hxy (hx.trans hy.symm)
      · rcases (hfp b hbx).1 with hb|hb
        · exact h.apart o y b (fun e=>hy e.symm) hb hby
        · have:=(h.own y b hby).2;omega
      · rcases (hfp b hby).1 with hb|hb
        · exact h.apart x o b hx hbx hb
        · have:=(h.own x b hbx).2;omega
      · exact h.apart x y b hxy hbx hby
    stab:=fun x b hb hs=>by
      by_cases hx:x=o<;>simp only [hx,if_true,if_false] at hb
      · rcases (hfp b hb).1 with hb'|hb'
        · exact h.stab o b hb' hs
        · have:=(h.sbd b hs).1;omega
      · exact h.stab x b hb hs
    own:=fun x b hb=>by
      by_cases hx:x=o<;>simp only [hx,if_true,if_false] at hb
      · refine ⟨?_,(hfp b hb).2⟩
        rcases (hfp b hb).1 with hb'|hb'
        · exact (h.own o b hb').1
        · exact .inl (Nat.le_trans h.fr.size hb')
      · exact ⟨(h.own x b hb).1,Nat.lt_of_lt_of_le (h.own x b hb).2 hsz⟩
    sbd:=fun b hb=>⟨Nat.lt_of_lt_of_le (h.sbd b hb).1 hsz,(h.sbd b hb).2⟩
    ssub:=h.ssub
    fr:=⟨hos.trans h.fr.os,htp.trans h.fr.tape,hout.trans h.fr.output,Nat.le_trans h.fr.size hsz,fun k hk hf=>by
      refine (hblk k (Nat.lt_of_lt_of_le hk h.fr.size) fun hin=>?_).trans (h.fr.block k hk hf)
      rcases (h.own o k hin).1 with h1|h1
      · omega
      · exact hf h1⟩ }
theorem RelG.freeze (h:RelG C σ a w G) {o n:Nat} {mo mo':Option MO} (hm:σ.mem o=(n,mo))
    (hmo:∀ x,mo'=some x→∃ g m,n=g+1∧(G.μ o)[g]?=some m∧x.holds G.μ ⟨w,fun b=>G.S b∨b∈G.φ o⟩ m []) :
    RelG C (σ.put o (n,mo')) a w ⟨G.μ,fun b=>G.S b∨b∈G.φ o,fun x=>if x=o then [] else G.φ x⟩:=by
  have hle:Wd.le ⟨w,G.S⟩ ⟨w,fun b=>G.S b∨b∈G.φ o⟩:=fun b hb=>⟨.inl hb,rfl⟩
  exact {
    size:=h.size
    defers:=fun d hd=>by
      obtain ⟨b,rfl,h1,h2,h3,h4,h5⟩:=h.defers d hd
      refine ⟨b,rfl,h1,h2,h3,fun hs=>hs.elim h4 (h5 o),fun x hx=>?_⟩
      by_cases hxo:x=o<;>simp [hxo] at hx
      exact h5 x hx
    dnod:=h.dnod
    mle:=h.mle
    env:=fun t=>(h.env t).mono (Mu.le.refl _) hle
    gens:=fun x=>by
      by_cases hx:x=o
      · subst hx;have:=h.gens x;rw [hm] at this;simpa [St.put] using this
      · simpa [St.put,hx] using h.gens x
    mem:=fun x k mo' hx=>by
      by_cases hxo:x=o
      · subst hxo
        simp only [St.put,if_true,Prod.mk.injEq] at hx
        obtain ⟨rfl,hx⟩:=hx
        simpa using hmo _ hx
      · simp only [St.put,hxo,if_false] at hx
        obtain ⟨g,m,hn,hm',hh⟩:=h.mem x k mo' hx
        exact ⟨g,m,hn,hm',by simpa [hxo] using hh.mono (Mu.le.refl _) hle fun _ _=>rfl⟩
    apart:=fun x y b hxy hbx hby=>by
      by_cases hx:x=o<;>by_cases hy:y=o<;>simp [hx,hy] at hbx hby
      exact h.apart x y b hxy hbx hby
    stab:=fun x b hb hs=>by
      by_cases hx:x=o<;>simp [hx] at hb
      rcases hs with hs|hs
      · exact h.stab x b hb hs
      · exact h.apart x o b hx hb hs
    own:=fun x b hb=>by
      by_cases hx:x=o<;>simp [hx] at hb
      exact h.own x b hb
    sbd:=fun b hb=>by
      rcases hb with hb|hb
      · exact h.sbd b hb
      · exact ⟨(h.own o b hb).2,.inr (h.own o b hb).1⟩
    ssub:=fun b hb=>.inl (h.ssub b hb)
    fr:=h.fr }
end upd
/-! ### Operands and operations -/
def constAV (v:Value):AV:=match v with
  | .agg _=>.un
  | .tuple _=>.un
  | v=>.p (.v v)
def St.look (σ:St):Operand→AV
  | .tmp t=>σ.env t
  | .const v=>constAV v
  | .global _=>.un
  | .func f=>.p (.v (.func (.func f) #[] #[]))
theorem constAV_holds (μ:Mu) (X:Wd) (v:Value):(constAV v).holds μ X v:=by
  cases v<;>simp [constAV,AV.holds,SV.holds,AC.holds,PVal.v,Value.oneCell']
theorem RelG.look {C:Ctx} {σ:St} {a:Act} {w:World} {G:Gh} (h:RelG C σ a w G) (x:Operand):(σ.look x).holds G.μ ⟨w,G.S⟩ (a.eval x):=by
  cases x with
  | tmp t=>exact h.env t
  | const v=>exact constAV_holds _ _ v
  | global g=>trivial
  | func f=>simp [St.look,AV.holds,SV.holds,AC.holds,PVal.v,Value.oneCell',Act.eval]
structure Eff where
  val:AV
  obj:List (Nat × (Nat × Option MO)):=[]
def St.puts (σ:St):List (Nat × (Nat × Option MO))→St
  | []=>σ
  | (o,m)::l=>(σ.puts l).put o m
def Eff.app (e:Eff) (d:Option Nat) (σ:St):St:=(σ.puts e.obj).set d e.val
theorem wpIn_exec {ro:Option Nat} {P:Program} {o:Oper} {a:Act} {w:World} {K:Act→World→Prop} {Q:Exit→Act→World→Prop} (hd:∀ c,o.op≠.defer c)
    (h:o.uponIn (fz ro) 0 P a K Q ((execOp a.eval o).run P w)):o.wpIn (fz ro) 0 P a w K Q:=by
  refine ⟨fun _ _=>trivial,?_⟩
  cases ro with
  | none=>exact h
  | some l=>show o.uponIn _ _ _ _ _ _ ((o.semAt (some l) a.eval).run P w);rw [Oper.semAt_some l a.eval o hd];exact h
theorem notDefer {P:Program} {o:Oper} {ρ:Operand→Value} {w w':World} {nx:Next} (h:(execOp ρ o).run P w=.ok nx w') (hn:∀ d,nx≠.defer d):∀ c,o.op≠.defer c:=by
  intro c hc
  simp only [execOp,hc,Sem.run_bind] at h
  generalize (resolve ρ c o.type).run P w=r at h
  cases r with
  | ok d w1=>simp [Result.andThen] at h;exact hn _ h.1.symm
  | halt x w1=>simp [Result.andThen] at h
def OpOk (C:Ctx) (o:Oper) (σ σ':St):Prop:=
  ∀ a w,Rel C σ a w→∀ (K:Act→World→Prop) (Q:Exit→Act→World→Prop),(∀ a' w',Rel C σ' a' w'→K a' w')→o.wpIn (fz C.ro) 0 C.P a w K Q
def LOp (C:Ctx) (o:Oper) (σ:St) (e:Eff) (ro:Nat→Bool):Prop:=
  (∀ x m,(x,m)∈e.obj→ro x=true)∧
  ∀ τ:St,(∀ x,x∈o.op.operands→τ.look x=σ.look x)→(∀ x,ro x=true→τ.mem x=σ.mem x)→OpOk C o τ (e.app o.dst τ)
theorem LOp.ok {C:Ctx} {o:Oper} {σ:St} {e:Eff} {ro:Nat→Bool} (h:LOp C o σ e ro):OpOk C o σ (e.app o.dst σ):=h.2 σ (fun _ _=>rfl) (fun _ _=>rfl)
def Guard (ops:Array Oper) (σ:St) (o:Oper) (r:Bool):Prop:=
  match o.guard with
  | none=>r=true
  | some (j,want)=>∃ t,(ops[j]?).bind (·.dst)=some t∧((∃ b,σ.env t=.p (.v (.bool b))∧r=(b == want))∨(σ.env t=.tup []∧r=false))
theorem Guard.wanted {C:Ctx} {ops:Array Oper} {σ:St} {o:Oper} {r:Bool} (h:Guard ops σ o r) {a:Act} {w:World} {G:Gh} (hr:RelG C σ a w G) :
    Region.wanted o (yielded ops a.tmps)=r:=by
  unfold Guard at h
  unfold Region.wanted
  cases hg:o.guard with
  | none=>simp only [hg] at h;exact h.symm
  | some jw=>
    obtain ⟨j,want⟩:=jw
    simp only [hg] at h
    obtain ⟨t,h1,⟨b,h2,rfl⟩ | ⟨h2,rfl⟩⟩:=h
    · have h3:=hr.env t
      rw [h2] at h3
      simp only [AV.holds,SV.holds,AC.holds,PVal.v] at h3
      have h4:a.tmps[t]?=some (.bool b):=by
        have h5:=h3.1
        simp only [Array.getD_eq_getD_getElem?] at h5
        cases h6:a.tmps[t]? with
        | none=>rw [h6] at h5;simp [undef] at h5
        | some v=>rw [h6] at h5;simp at h5;rw [h5]
      simp [yielded,h1,h4]
    · have h3:=hr.env t
      rw [h2] at h3
      obtain ⟨arr,h5,h6⟩:=h3
      obtain rfl:=h6.nil_inv
      simp only [Array.getD_eq_getD_getElem?] at h5
      cases h7:a.tmps[t]? with
      | none=>simp [yielded,h1,h7]
      | some v=>rw [h7] at h5;simp at h5;simp [yielded,h1,h7,h5]
theorem undef_holds {μ:Mu} {X:Wd}:(AV.tup []).holds μ X undef:=⟨[],rfl,.nil⟩
def RunN (C:Ctx) (ops:Array Oper):List Oper→(St→Prop)→St→Prop
  | [],K,σ=>K σ
  | o::rest,K,σ=>(Guard ops σ o true∧∃ σ',OpOk C o σ σ'∧RunN C ops rest K σ')∨(Guard ops σ o false∧dOk C o.dst=true∧RunN C ops rest K (σ.set o.dst (.tup [])))
theorem runN_sound {C:Ctx} {ops:Array Oper} {Q:Exit→Act→World→Prop}:∀ (l:List Oper) {K:St→Prop} {σ:St},RunN C ops l K σ→
    (∀ σ a w,K σ→Rel C σ a w→Q .normal a w)→∀ a w,Rel C σ a w→wpListIn (fz C.ro) 0 C.P ops Q l a w
  | [],K,σ,h,hK,a,w,hr=>hK _ _ _ h hr
  | o::rest,K,σ,h,hK,a,w,hr=>by
    obtain ⟨G,hG⟩:=hr
    unfold wpListIn
    rcases h with ⟨hg,σ',h1,h2⟩ | ⟨hg,hd,h2⟩
    · rw [hg.wanted hG,if_pos rfl]
      exact h1 a w ⟨G,hG⟩ _ _ fun a' w' hr'=>runN_sound rest h2 hK a' w' hr'
    · rw [hg.wanted hG]
      simp only [Bool.false_eq_true,if_false]
      exact ⟨fun _ _=>trivial,runN_sound rest h2 hK _ _ ⟨G,hG.setv hd undef_holds⟩⟩
theorem aws_region {C:Ctx} {id:Nat} {l:List Oper} {k:List Code} {Q:Exit→St→Prop} {σ:St} (h:RunN C l.toArray l (AWs C k Q) σ):AWs C (.region id l.toArray false::k) Q σ:=by
  intro a w hr
  exact wpIn_region_lit (runN_sound l h (fun σ a w hK hr=>⟨σ,hK,hr⟩) a w hr)
/-! ### A region that draws its order -/
def edge (ops:Array Oper) (a b:Nat):Bool:=match ops[b]? with|some o=>o.after.any (fun e=>Region.binds .any e&&e.on == a)|none=>false
def reach (ops:Array Oper):Nat→Nat→Nat→Bool
  | 0,_,_=>false
  | n+1,a,b=>match ops[b]? with|some o=>o.after.any (fun e=>Region.binds .any e&&(e.on == a||Nat.blt a e.on&&reach ops n a e.on))|none=>false
def Shut (ops:Array Oper) (listed:Array Bool):Prop:=∀ b ob,ops[b]?=some ob→listed.getD b false=true→∀ e∈ob.after,Region.binds .any e=true→listed.getD e.on false=true
theorem Shut.set {ops:Array Oper} {l:Array Bool} (h:Shut ops l) {j:Nat} {oj:Oper} (hj:ops[j]?=some oj) (hall:∀ e∈oj.after,Region.binds .any e=true→l.getD e.on false=true):Shut ops (l.setIfInBounds j true):=by
  intro b ob hb hl e he hbi
  by_cases hbj:j=b
  · subst hbj
    rw [hj] at hb;obtain rfl:=Option.some.inj hb
    exact getD_set_true (hall e he hbi)
  · rw [getD_set_ne false hbj] at hl
    exact getD_set_true (h b ob hb hl e he hbi)
theorem noreach {ops:Array Oper} {l:Array Bool} (h:Shut ops l) {i:Nat} (hi:l.getD i true=false):∀ (n b:Nat) ob,ops[b]?=some ob→(∀ e∈ob.after,Region.binds .any e=true→l.getD e.on false=true)→reach ops n i b=false
  | 0,_,_,_,_=>rfl
  | n+1,b,ob,hb,hall=>by
    unfold reach
    simp only [hb]
    rw [Bool.eq_false_iff]
    intro hc
    obtain ⟨e,he,hx⟩:=Array.any_eq_true'.1 hc
    simp only [Bool.and_eq_true,Bool.or_eq_true,beq_iff_eq] at hx
    have hl:=hall e he hx.1
    rcases hx.2 with k|k
    · rw [k] at hl
      rcases Nat.lt_or_ge i l.size with h'|h'
      · simp [h'] at hi hl;rw [hi] at hl;cases hl
      · simp [Array.getElem?_eq_none h'] at hl
    · have k:=k.2
      cases hq:ops[e.on]? with
      | none=>
        cases n with
        | zero=>cases k
        | succ n=>unfold reach at k;simp [hq] at k
      | some oe=>rw [noreach h hi n e.on oe hq (h e.on oe hq hl)] at k;cases k
def okObj (ops:Array Oper) (W:List (Nat × Nat)) (i:Nat) (x:Nat):Bool:=W.all (fun p=>p.2 != x||p.1 == i||edge ops p.1 i||edge ops i p.1||Nat.blt p.1 i&&reach ops 30 p.1 i||Nat.blt i p.1&&reach ops 30 i p.1)
def Yld (C:Ctx) (ops:Array Oper) (W:List (Nat × Nat)) (i:Nat) (o:Oper) (e:Eff) (σ:St):Prop:=
  (Guard ops σ o true∧dOk C o.dst=true∧∃ ro,LOp C o σ e ro∧(∀ x,ro x=true→okObj ops W i x=true)∧(∀ x m,(x,m)∈e.obj→(i,x)∈W))∨
  (Guard ops σ o false∧dOk C o.dst=true∧e=⟨.tup [],[]⟩)
def RunK (C:Ctx) (ops:Array Oper) (W:List (Nat × Nat)):Nat→List Oper→(St→Prop)→St→Prop
  | _,[],K,σ=>K σ
  | i,o::rest,K,σ=>∃ e,Yld C ops W i o e σ∧RunK C ops W (i+1) rest K (e.app o.dst σ)
def KAny (C:Ctx) (ops:Array Oper) (W:List (Nat × Nat)) (K:St→Prop):Nat→Array Bool→St→Prop
  | 0,listed,σ=>Region.ready .any ops listed=[]∧K σ
  | fuel+1,listed,σ=>(Region.ready .any ops listed=[]→K σ)∧
    ∀ i∈Region.ready .any ops listed,∃ o,ops[i]?=some o∧∃ e,Yld C ops W i o e σ∧KAny C ops W K fuel (listed.setIfInBounds i true) (e.app o.dst σ)
section draws
variable {C:Ctx} {ops:Array Oper} {W:List (Nat × Nat)}
theorem kAny_sound {K:St→Prop} {Q:Exit→Act→World→Prop} (hK:∀ σ a w,K σ→Rel C σ a w→Q .normal a w):∀ (fuel:Nat) (listed:Array Bool) (σ:St) (a:Act) (w:World),
    KAny C ops W K fuel listed σ→Rel C σ a w→wpAnyIn (fz C.ro) 0 C.P .any ops Q fuel listed a w
  | 0,listed,σ,a,w,h,hr=>⟨h.1,hK _ _ _ h.2 hr⟩
  | fuel+1,listed,σ,a,w,h,hr=>by
    refine ⟨fun h0=>hK _ _ _ (h.1 h0) hr,fun i hi=>?_⟩
    obtain ⟨o,ho,e,hy,hk⟩:=h.2 i hi
    obtain ⟨G,hG⟩:=hr
    unfold wpOpIn
    simp only [ho]
    rcases hy with ⟨hg,hd,ro,hl,h1,h2⟩ | ⟨hg,hd,rfl⟩
    · rw [hg.wanted hG,if_pos rfl]
      exact hl.ok a w ⟨G,hG⟩ _ _ fun a' w' hr'=>kAny_sound hK fuel _ _ a' w' hk hr'
    · rw [hg.wanted hG]
      simp only [Bool.false_eq_true,if_false]
      exact ⟨fun _ _=>trivial,kAny_sound hK fuel _ _ _ _ hk ⟨G,hG.setv hd undef_holds⟩⟩
theorem LOp.congr {o:Oper} {σ τ:St} {e:Eff} {ro:Nat→Bool} (h:LOp C o σ e ro) (h1:∀ x,x∈o.op.operands→τ.look x=σ.look x) (h2:∀ x,ro x=true→τ.mem x=σ.mem x):LOp C o τ e ro:=
  ⟨h.1,fun u k1 k2=>h.2 u (fun x hx=>(k1 x hx).trans (h1 x hx)) (fun x hx=>(k2 x hx).trans (h2 x hx))⟩
theorem St.puts_env:∀ (l:List (Nat × (Nat × Option MO))) (σ:St),(σ.puts l).env=σ.env
  | [],_=>rfl
  | (o,m)::l,σ=>by simp only [St.puts,St.put];exact St.puts_env l σ
theorem St.puts_mem:∀ (l:List (Nat × (Nat × Option MO))) (σ:St) (x:Nat),(∀ y m,(y,m)∈l→x≠y)→(σ.puts l).mem x=σ.mem x
  | [],_,_,_=>rfl
  | (o,m)::l,σ,x,h=>by
    simp only [St.puts,St.put,h o m (by simp),if_false]
    exact St.puts_mem l σ x fun y m hy=>h y m (by simp [hy])
theorem St.puts_in:∀ (l:List (Nat × (Nat × Option MO))) (σ τ:St) (x:Nat),(∃ m,(x,m)∈l)→(σ.puts l).mem x=(τ.puts l).mem x
  | [],_,_,_,h=>by simp at h
  | (o,m)::l,σ,τ,x,h=>by
    by_cases hx:x=o
    · simp [St.puts,St.put,hx]
    · simp only [St.puts,St.put,hx,if_false]
      refine St.puts_in l σ τ x ?_
      obtain ⟨n,hn⟩:=h
      simp only [List.mem_cons,Prod.mk.injEq] at hn
      rcases hn with hn|hn
      · exact absurd hn.1 hx
      · exact ⟨n,hn⟩
theorem St.set_mem {σ:St} {d:Option Nat} {v:AV}:(σ.set d v).mem=σ.mem:=by cases d<;>rfl
theorem Eff.env_app {e:Eff} {d:Option Nat} {σ:St} {t:Nat} (h:∀ t',d=some t'→t≠t'):(e.app d σ).env t=σ.env t:=by
  unfold Eff.app
  cases d with
  | none=>simp only [St.set];rw [St.puts_env]
  | some d=>simp only [St.set,h d rfl,if_false];rw [St.puts_env]
theorem Eff.mem_app {e:Eff} {d:Option Nat} {σ:St} {x:Nat} (h:∀ y m,(y,m)∈e.obj→x≠y):(e.app d σ).mem x=σ.mem x:=by
  unfold Eff.app
  rw [St.set_mem,St.puts_mem _ _ _ h]
theorem Eff.comm {e f:Eff} {d c:Option Nat} {σ:St} (hd:∀ t,d=some t→c≠some t) (ho:∀ x m y n,(x,m)∈e.obj→(y,n)∈f.obj→x≠y) :
    e.app d (f.app c σ)=f.app c (e.app d σ):=by
  have henv:(e.app d (f.app c σ)).env=(f.app c (e.app d σ)).env:=by
    funext t
    by_cases h1:d=some t
    · have h2:=hd t h1
      subst h1
      have e1:(e.app (some t) (f.app c σ)).env t=e.val:=by simp [Eff.app,St.set]
      rw [e1,Eff.env_app fun t' ht'=>by intro hh;subst hh;exact h2 ht']
      simp [Eff.app,St.set]
    · rw [Eff.env_app (e:=e) fun t' ht'=>by intro hh;subst hh;exact h1 ht']
      by_cases h2:c=some t
      · subst h2;simp [Eff.app,St.set]
      · rw [Eff.env_app fun t' ht'=>by intro hh;subst hh;exact h2 ht',Eff.env_app fun t' ht'=>by intro hh;subst hh;exact h2 ht',Eff.env_app fun t' ht'=>by intro hh;subst hh;exact h1 ht']
  have hmem:(e.app d (f.app c σ)).mem=(f.app c (e.app d σ)).mem:=by
    funext z
    by_cases h1:∃ m,(z,m)∈e.obj
    · have h2:∀ y m,(y,m)∈f.obj→z≠y:=fun y m hy he=>by
        obtain ⟨m',hm'⟩:=h1
        exact ho z m' y m hm' hy he
      rw [Eff.mem_app (e:=f) h2]
      unfold Eff.app
      rw [St.set_mem,St.set_mem]
      exact St.puts_in _ _ _ z h1
    · have h1':∀ y m,(y,m)∈e.obj→z≠y:=fun y m hy he=>h1 ⟨m,by rw [he];exact hy⟩
      rw [Eff.mem_app (e:=e) h1']
      by_cases h2:∃ m,(z,m)∈f.obj
      · unfold Eff.app
        rw [St.set_mem,St.set_mem]
        exact St.puts_in _ _ _ z h2
      · have h2':∀ y m,(y,m)∈f.obj→z≠y:=fun y m hy he=>h2 ⟨m,by rw [he];exact hy⟩
        rw [Eff.mem_app h2',Eff.mem_app h2',Eff.mem_app h1']
  have:∀ s t:St,s.env=t.env→s.mem=t.mem→s=t:=by rintro ⟨a,b⟩ ⟨c,d⟩ h1 h2;simp_all
  exact this _ _ henv hmem
theorem mem_looksAt {o:Oper} {t:Nat} (h:Operand.tmp t∈o.op.operands):t∈o.looksAt ops:=
  List.mem_append_left _ (List.mem_filterMap.2 ⟨.tmp t,by simpa using h,rfl⟩)
theorem Yld.congr {i:Nat} {o:Oper} {e:Eff} {σ τ:St} (h:Yld C ops W i o e σ) (h1:∀ t,t∈o.looksAt ops→τ.env t=σ.env t) (h2:∀ x,okObj ops W i x=true→τ.mem x=σ.mem x):Yld C ops W i o e τ:=by
  have hlook:∀ x,x∈o.op.operands→τ.look x=σ.look x:=fun x hx=>by
    cases x with
    | tmp t=>exact h1 t (mem_looksAt hx)
    | _=>rfl
  have hguard:∀ r,Guard ops σ o r→Guard ops τ o r:=fun r hg=>by
    unfold Guard at *
    cases hgd:o.guard with
    | none=>simpa [hgd] using hg
    | some jw=>
      obtain ⟨j,want⟩:=jw
      simp only [hgd] at hg ⊢
      obtain ⟨t,g1,g2⟩:=hg
      refine ⟨t,g1,?_⟩
      rw [h1 t ?_];exact g2
      unfold Oper.looksAt
      refine List.mem_append_right _ ?_
      simp [hgd,g1]
  rcases h with ⟨hg,hd,ro,hl,k1,k2⟩ | ⟨hg,hd,rfl⟩
  · exact .inl ⟨hguard _ hg,hd,ro,hl.congr hlook (fun x hx=>h2 x (k1 x hx)),k1,k2⟩
  · exact .inr ⟨hguard _ hg,hd,rfl⟩
theorem Yld.objW {i:Nat} {o:Oper} {e:Eff} {σ:St} (h:Yld C ops W i o e σ) {x:Nat} {m:Nat × Option MO} (hx:(x,m)∈e.obj):(i,x)∈W∧okObj ops W i x=true:=by
  rcases h with ⟨hg,hd,ro,hl,k1,k2⟩ | ⟨hg,hd,rfl⟩
  · exact ⟨k2 x m hx,k1 x (hl.1 x m hx)⟩
  · cases hx
theorem kAny_first {K:St→Prop} {i:Nat} {oi:Oper} {e:Eff} (hi:ops[i]?=some oi) :
    ∀ (fuel:Nat) (listed:Array Bool) (σ:St),Shut ops listed→
      (∀ (j:Nat) oj,ops[j]?=some oj→j≠i→listed.getD j true=false→(∀ e∈oj.after,Region.binds .any e=true→e.on≠i)→oi.apart ops oj=true)→
      i∈Region.ready .any ops listed→Yld C ops W i oi e σ→
      KAny C ops W K fuel (listed.setIfInBounds i true) (e.app oi.dst σ)→KAny C ops W K (fuel+1) listed σ:=by
  intro fuel
  induction fuel with
  | zero=>
    intro listed σ _ _ hr hy H
    refine ⟨fun h=>(by rw [h] at hr;cases hr),fun j hj=>?_⟩
    by_cases hji:j=i
    · subst hji;exact ⟨oi,hi,e,hy,H⟩
    · have:=ready_mono hj hji
      rw [H.1] at this
      cases this
  | succ fuel ih=>
    intro listed σ hshut hfree hr hy H
    refine ⟨fun h=>(by rw [h] at hr;cases hr),fun j hj=>?_⟩
    by_cases hji:j=i
    · subst hji;exact ⟨oi,hi,e,hy,H⟩
    · obtain ⟨oj',hoj',f,hyf,hk⟩:=H.2 j (ready_mono hj hji)
      obtain ⟨hjun,oj,hoj,hall⟩:=mem_ready.1 hj
      have hoo:oj'=oj:=by rw [hoj] at hoj';exact (Option.some.inj hoj').symm
      subst hoo
      have unl:∀ (a:Nat),listed.getD a true=false→listed.getD a false=true→False:=fun a h0 h1=>by
        rcases Nat.lt_or_ge a listed.size with h'|h'
        · simp [h'] at h0 h1;rw [h0] at h1;cases h1
        · simp [Array.getElem?_eq_none h'] at h1
      have hiun:=(mem_ready.1 hr).1
      have hnot:∀ e∈oj'.after,Region.binds .any e=true→e.on≠i:=fun e he hb heq=>by
        have h1:=hall e he hb
        rw [heq] at h1
        exact unl i hiun h1
      have hap:=hfree j oj' hoj hji hjun hnot
      obtain ⟨a1,a2,a3⟩:=Oper.apart_spec hap
      have noedge:edge ops i j=false:=by
        unfold edge
        simp only [hoj]
        rw [Bool.eq_false_iff]
        intro hc
        obtain ⟨e,he,hb⟩:=Array.any_eq_true'.1 hc
        simp only [Bool.and_eq_true,beq_iff_eq] at hb
        exact hnot e he hb.1 hb.2
      have noedge':edge ops j i=false:=by
        unfold edge
        simp only [hi]
        rw [Bool.eq_false_iff]
        intro hc
        obtain ⟨e,he,hb⟩:=Array.any_eq_true'.1 hc
        simp only [Bool.and_eq_true,beq_iff_eq] at hb
        obtain ⟨_,o',ho',hall'⟩:=mem_ready.1 hr
        rw [hi] at ho'
        obtain rfl:=Option.some.inj ho'
        have h1:=hall' e he hb.1
        rw [hb.2] at h1
        exact unl j hjun h1
      have nor:reach ops 30 i j=false:=noreach hshut hiun 30 j oj' hoj hall
      have nor':reach ops 30 j i=false:=by
        obtain ⟨_,o',ho',hall'⟩:=mem_ready.1 hr
        exact noreach hshut hjun 30 i o' ho' hall'
      have objne:∀ (p q:Nat) x y,(p,x)∈W→okObj ops W q y=true→p≠q→edge ops p q=false→edge ops q p=false→reach ops 30 p q=false→reach ops 30 q p=false→y≠x:=fun p q x y hW hok hpq e1 e2 e3 e4 he=>by
        subst he
        unfold okObj at hok
        have:=List.all_eq_true.1 hok (p,y) hW
        simp [e1,e2,e3,e4,hpq] at this
      -- j does not see what i does
      have hyf':Yld C ops W j oj' f σ:=hyf.congr
        (fun t ht=>(Eff.env_app fun t' ht' he=>by subst he;exact a1 t ht' ht).symm)
        (fun x hx=>(Eff.mem_app fun y m hy'=>objne i j y x (hy.objW hy').1 hx (fun h=>hji h.symm) noedge noedge' nor nor').symm)
      have hy':Yld C ops W i oi e (f.app oj'.dst σ):=hy.congr
        (fun t ht=>Eff.env_app fun t' ht' he=>by subst he;exact a3 t ht' ht)
        (fun x hx=>Eff.mem_app fun y m hy'=>objne j i y x (hyf.objW hy').1 hx hji noedge' noedge nor' nor)
      have hcomm:e.app oi.dst (f.app oj'.dst σ)=f.app oj'.dst (e.app oi.dst σ):=Eff.comm a2
        (fun x m y n hx hy2 he=>by
          subst he
          have h3:=(hyf.objW hy2).2
          exact objne i j x x (hy.objW hx).1 h3 (fun h=>hji h.symm) noedge noedge' nor nor' rfl)
      refine ⟨oj',hoj,f,hyf',?_⟩
      have hfree':∀ (k:Nat) ok,ops[k]?=some ok→k≠i→(listed.setIfInBounds j true).getD k true=false→
          (∀ e∈ok.after,Region.binds .any e=true→e.on≠i)→oi.apart ops ok=true:=fun k ok hk hki hun hno=>by
        refine hfree k ok hk hki ?_ hno
        by_cases hjk:j=k
        · subst hjk;exact hjun
        · rw [getD_set_ne true hjk] at hun;exact hun
      refine ih (listed.setIfInBounds j true) _ (hshut.set hoj hall) hfree' (ready_mono hr (Ne.symm hji)) hy' ?_
      rw [Array.setIfInBounds_comm _ _ hji,hcomm]
      exact hk
theorem kAny_lex {K:St→Prop}:∀ (l:List Oper) (k:Nat) (listed:Array Bool) (σ:St),Shut ops listed→(∀ j,l[j]?=ops[k+j]?)→
    Region.lexFrom .any ops l.length k listed=true→RunK C ops W k l K σ→KAny C ops W K l.length listed σ
  | [],_,_,_,_,_,hB,h=>⟨by simpa [Region.lexFrom] using hB,h⟩
  | o::l,k,listed,σ,hs,hl,hB,h=>by
    have h0:ops[k]?=some o:=by simpa using (hl 0).symm
    simp only [List.length_cons,Region.lexFrom,Bool.and_eq_true] at hB
    obtain ⟨⟨hr,hf⟩,hB'⟩:=hB
    obtain ⟨e,hy,hK⟩:=h
    have hrm:k∈Region.ready .any ops listed:=by simpa using hr
    obtain ⟨_,ok,hok,hall⟩:=mem_ready.1 hrm
    exact kAny_first h0 l.length listed σ hs (Region.free_spec h0 hf) hrm hy
      (kAny_lex l (k+1) _ _ (hs.set hok hall) (fun j=>by have:=hl (j+1);simpa [Nat.add_assoc,Nat.add_comm 1 j] using this) hB' hK)
theorem aws_draws {id:Nat} {l:List Oper} {k:List Code} {Q:Exit→St→Prop} {σ:St} (W:List (Nat × Nat)) (hm:C.P.follows .mixedOrders=true) (hB:Region.lexB .any l.toArray=true)
    (h:RunK C l.toArray W 0 l (AWs C k Q) σ):AWs C (.region id l.toArray true::k) Q σ:=by
  intro a w hr
  simp only [Region.lexB,Bool.and_eq_true] at hB
  obtain ⟨G,hG⟩:=hr
  refine wpIn_region_any hm (kAny_sound (W:=W) (K:=AWs C k Q) (fun σ a w hK hr=>⟨σ,hK,hr⟩) _ _ _ _ _ ?_ ⟨G,hG.world' (Quiet.drew w)⟩)
  have:=kAny_lex (C:=C) (W:=W) (K:=AWs C k Q) (ops:=l.toArray) l 0 (Array.replicate l.toArray.size false) σ (fun b ob hb hl=>by
    have hlt:b < l.toArray.size:=(Array.getElem?_eq_some_iff.1 hb).1
    have e:(Array.replicate l.toArray.size false).getD b false=false:=by simp [Array.getElem?_replicate];split<;>rfl
    rw [e] at hl;cases hl) (by simp) (by simpa using hB.2) h
  simpa using this
end draws
/-! ### Contracts -/
def PCall (P:Program) (f:FuncId) (args:List AV) (r:AV):Prop:=
  ∀ (w:World) (S:Nat→Prop) (vs:List Value),(∀ b,S b→b < w.heap.size)→All2 (AV.holds Mu.none ⟨w,S⟩) args vs→
    Calls P f vs.toArray w fun e w'=>∃ v,e=.returned v∧(∃ S':Nat→Prop,(∀ b,S b→S' b)∧(∀ b,S' b→S b∨(w.heap.size≤b∧b < w'.heap.size))∧r.holds Mu.none ⟨w',S'⟩ v)∧Below w.heap.size w w'∧w.drawn≤w'.drawn
end Go.Aw
/- THE ABSTRACT WALK, part 3: entering a function, returning, calling. -/
namespace Go.Aw
open Go Go.RowKit
set_option linter.unusedVariables false
set_option linter.unusedSimpArgs false
/-! ### Types -/
inductive TK where
  | int (k:IntKind)|bool|string
  | slice (e:TypeId)|array (n:Nat) (e:TypeId)|struct (fs:List (Nat × TypeId))
  | ptr (e:TypeId)|map (k e:TypeId)|other
def TK.of:TypeDesc→TK
  | .int k=>.int k
  | .bool=>.bool
  | .string=>.string
  | .slice e=>.slice e
  | .array n e=>.array n e
  | .struct fs=>.struct (fs.toList.map fun f=>(f.offset,f.type))
  | .pointer e=>.ptr e
  | .map k e=>.map k e
  | _=>.other
def TK.agg:TK→Bool
  | .array .. | .struct ..=>true
  | _=>false
class TI (P:Program) (T:TypeId) (k:outParam TK) (sz by_:outParam Nat):Prop where
  und:(P.underlying T).map TK.of=some k
  info:(P.info? T).map (fun i=>(i.size,i.bytes))=some (sz,by_)
class TZ (P:Program) (T:TypeId) (z:outParam (List Value)):Prop where
  zero:(P.info? T).bind (fun i=>i.zero.map (fun v=>v.cells.toList))=some z
class FnT (P:Program) (f:FuncId):Prop where
  fn : ∃ fn, P.funcs[f]? = some fn ∧ (fn.name == "runtime.NumGoroutine") = false ∧ fn.body.isNone = false
section types
variable {P:Program} {T:TypeId} {k:TK} {sz by_:Nat}
theorem TI.undd [h:TI P T k sz by_]:∃ d,P.underlying T=some d∧TK.of d=k:=by
  have:=h.und
  cases hu:P.underlying T with
  | none=>simp [hu] at this
  | some d=>exact ⟨d,rfl,by simpa [hu] using this⟩
theorem TI.infoo [h:TI P T k sz by_]:∃ i,P.info? T=some i∧i.size=sz∧i.bytes=by_:=by
  have:=h.info
  cases hu:P.info? T with
  | none=>simp [hu] at this
  | some i=>simp [hu] at this;exact ⟨i,rfl,this.1,this.2⟩
theorem TI.run_sizeOf (h:TI P T k sz by_) (w:World):(sizeOf T).run P w=.ok sz w:=by
  obtain ⟨i,hi,hs,_⟩:=h.infoo
  simp [sizeOf,typeInfo,hi,hs]
theorem TI.run_isAgg (h:TI P T k sz by_) (w:World):(isAgg T).run P w=.ok k.agg w:=by
  obtain ⟨d,hd,hk⟩:=h.undd
  unfold isAgg
  rw [Sem.run_bind,run_underlying hd w]
  subst hk
  cases d<;>simp [TK.of,TK.agg]
end types
/-! ### Entering and returning -/
def St.init (args:List AV):St:=⟨fun t=>args.getD t .un,fun _=>(0,none)⟩
def PVal.bx (ps:List PVal) (off:Nat):PVal where
  holds X v:=∃ b cs ty,v=.pointer (some ⟨b,off,none⟩)∧X.S b∧X.w.heap[b]?=some (.cells (List.toArray cs) ty (0,0))∧All2 (fun p c=>p.holds X c) ps cs
  mono:=by
    rintro x y v hle ⟨b,cs,ty,h1,h2,h3,h4⟩
    exact ⟨b,cs,ty,h1,(hle b h2).1,(hle b h2).2.trans h3,h4.mono fun p c hp=>p.mono hle hp⟩
  one:=by rintro x v ⟨b,cs,ty,rfl,_⟩;rfl
inductive FinC (σ:St) (K:Nat→Bool):AC→AC→Prop
  | p {x:PVal}:FinC σ K (.p x) (.p x)
  | nil {es:Nat} {ex:Bool}:FinC σ K (.p (.v (.slice none 0 0))) (.p (.sl es [] ex))
  | osl {o g es lo len ty:Nat} {rows:List (List PVal)} (hK:K o=false) (hm:σ.mem o=(g+1,some (.buf ty es rows))) (hl:lo+len≤rows.length) :
      FinC σ K (.osl o g es lo len) (.p (.sl es ((rows.drop lo).take len) false))
  | frz {o g es lo len ty:Nat} {rows:List (List PVal)} (hm:σ.mem o=(g+1,some (.frz ty es rows))) (hl:lo+len≤rows.length) :
      FinC σ K (.osl o g es lo len) (.p (.sl es ((rows.drop lo).take len) false))
  | bx {o g off ty:Nat} {ps:List PVal} (hK:K o=false) (hm:σ.mem o=(g+1,some (.box ty (ps.map .p)))):FinC σ K (.ptr o g off) (.p (.bx ps off))
  | kptr {o g off:Nat} (hK:K o=true):FinC σ K (.ptr o g off) (.ptr o g off)
  | kosl {o g es lo len:Nat} (hK:K o=true):FinC σ K (.osl o g es lo len) (.osl o g es lo len)
  | kasl {o g off len cap:Nat} (hK:K o=true):FinC σ K (.asl o g off len cap) (.asl o g off len cap)
  | kfn {f o g:Nat} {pre post:List PVal} (hK:K o=true):FinC σ K (.fn f o g pre post) (.fn f o g pre post)
inductive FinS (σ:St) (K:Nat→Bool):SV→SV→Prop
  | one {c d:AC} (h:FinC σ K c d):FinS σ K (.one c) (.one d)
  | agg {cs ds:List AC} (h:All2 (FinC σ K) cs ds):FinS σ K (.agg cs) (.agg ds)
inductive FinM (σ:St) (K:Nat→Bool):Nat × Option MO→Nat × Option MO→Prop
  | drop {n:Nat} {mo:Option MO}:FinM σ K (n,mo) (n,none)
  | buf {n ty es:Nat} {rows:List (List PVal)}:FinM σ K (n,some (.buf ty es rows)) (n,some (.buf ty es rows))
  | frz {n ty es:Nat} {rows:List (List PVal)}:FinM σ K (n,some (.frz ty es rows)) (n,some (.frz ty es rows))
  | abs {n:Nat} {A:AObj}:FinM σ K (n,some (.abs A)) (n,some (.abs A))
  | box {n ty:Nat} {cs ds:List AC} (h:All2 (FinC σ K) cs ds):FinM σ K (n,some (.box ty cs)) (n,some (.box ty ds))
inductive Res (P:Program) (σ:St) (K:Nat→Bool):ResultVar→SV→Prop
  | tmp {t:Nat} {s s':SV} (h:σ.env t=.s s) (hf:FinS σ K s s'):Res P σ K (.tmp t) s'
  | cell {t ty o g ty' sz by_:Nat} {k:TK} {cs ds:List AC} (h:σ.env t=.o (.ptr o g 0)) (hm:σ.mem o=(g+1,some (.box ty' cs))) (hT:TI P ty k sz by_) (hk:k.agg=true) (hs:cs.length=sz) (hf:All2 (FinC σ K) cs ds) :
      Res P σ K (.cell t ty) (.agg ds)
def resAV:List SV→AV
  | [s]=>.s s
  | l=>.tup l
def kNone:Nat→Bool:=fun _=>false
def Ret (P:Program) (fn:Func) (r:AV):Exit→St→Prop
  | .ret,σ | .normal,σ=>∃ l,r=resAV l∧All2 (Res P σ kNone) fn.results.toList l
  | _,_=>False
def RetO (P:Program) (fn:Func) (r:AV) (K:Nat→Bool) (m1:Nat→Nat × Option MO):Exit→St→Prop
  | .ret,σ | .normal,σ=>(∃ l,r=resAV l∧All2 (Res P σ K) fn.results.toList l)∧(∀ o,K o=true→FinM σ K (σ.mem o) (m1 o))∧∀ o,K o=false→m1 o=(0,none)
  | _,_=>False
section finish
variable {C:Ctx} {σ:St} {a:Act} {w:World} {G:Gh} {K:Nat→Bool}
def muK (K:Nat→Bool) (G:Gh):Mu:=fun o=>if K o=true then G.μ o else []
def aftS (K:Nat→Bool) (G:Gh):Nat→Prop:=fun b=>G.S b∨∃ o,K o=false∧b∈G.φ o
theorem le_aft:Wd.le ⟨w,G.S⟩ ⟨w,aftS K G⟩:=fun b hb=>⟨.inl hb,rfl⟩
theorem FinC.holds (h:RelG C σ a w G) {c d:AC} (hf:FinC σ K c d) {v:Value} (hc:c.holds G.μ ⟨w,G.S⟩ v):d.holds (muK K G) ⟨w,aftS K G⟩ v:=by
  have rowsOk:∀ {arr:Array Value} {es lo len:Nat} {rows:List (List PVal)},RowsAt ⟨w,G.S⟩ arr 0 es rows→RowsAt ⟨w,aftS K G⟩ arr (lo * es) es ((rows.drop lo).take len):=by
    intro arr es lo len rows h7 i row hr
    have hr':rows[lo+i]?=some row:=by
      rw [List.getElem?_take] at hr
      split at hr
      · simpa using hr
      · cases hr
    refine ⟨(h7 _ _ hr').1,fun j p hp=>?_⟩
    obtain ⟨x,hx,hxx⟩:=(h7 _ _ hr').2 j p hp
    refine ⟨x,?_,p.mono le_aft hxx⟩
    rw [← hx];congr 1
    rw [Nat.add_mul];omega
  cases hf with
  | p=>exact PVal.mono _ le_aft hc
  | nil=>exact ⟨none,0,hc.1,Nat.le_refl _,by simp [maxLen],fun _=>rfl,rfl,rfl⟩
  | @osl o g es lo len ty rows hK hm hl=>
    obtain ⟨m,c,h1,h2,rfl⟩:=hc
    obtain ⟨g',m',hg,hm',hes,hmax,hlen,hh⟩:=h.mem _ _ _ hm
    obtain rfl:g=g':=by omega
    rw [h1] at hm'
    obtain rfl:=Option.some.inj hm'
    simp only at hlen hmax hh
    refine ⟨m.map fun b=>⟨b,lo * es,none⟩,c - lo,?_,?_,by omega,by simp,?_⟩
    · simp;omega
    · simp;omega
    · rcases hh with ⟨h3,h4,h5⟩ | ⟨b,arr,h3,h4,h5,h6,h7⟩
      · subst h3;simp only [Option.map_none]
        refine ⟨?_,by omega⟩
        have:rows=[]:=List.eq_nil_of_length_eq_zero (by omega)
        simp [this]
      · subst h3
        simp only [Option.map_some]
        exact .inr ⟨by first|rfl|trivial,.inr ⟨o,hK,by rw [h4];simp⟩,arr,ty,(0,0),h5,rowsOk h7⟩
  | @frz o g es lo len ty rows hm hl=>
    obtain ⟨m,c,h1,h2,rfl⟩:=hc
    obtain ⟨g',m',hg,hm',hes,hmax,hlen,hh⟩:=h.mem _ _ _ hm
    obtain rfl:g=g':=by omega
    rw [h1] at hm'
    obtain rfl:=Option.some.inj hm'
    simp only at hlen hmax hh
    refine ⟨m.map fun b=>⟨b,lo * es,none⟩,c - lo,?_,?_,by omega,by simp,?_⟩
    · simp;omega
    · simp;omega
    · rcases hh with ⟨h3,h4⟩ | ⟨b,arr,h3,h4,h5,h7⟩
      · subst h3;simp only [Option.map_none]
        refine ⟨?_,by omega⟩
        have:rows=[]:=List.eq_nil_of_length_eq_zero (by omega)
        simp [this]
      · subst h3
        simp only [Option.map_some]
        exact .inr ⟨by first|rfl|trivial,.inl h4,arr,ty,(0,0),h5,rowsOk h7⟩
  | @bx o g off ty ps hK hm=>
    obtain ⟨b,c,h1,rfl⟩:=hc
    obtain ⟨g',m',hg,hm',b',arr,h4,h5,h6,h7⟩:=h.mem _ _ _ hm
    obtain rfl:g=g':=by omega
    rw [h1] at hm'
    obtain rfl:=Option.some.inj hm'
    simp only [Option.some.injEq] at h4
    subst h4
    refine ⟨b,arr,ty,rfl,.inr ⟨o,hK,by rw [h5];simp⟩,h6,?_⟩
    refine ⟨by simpa using h7.1,fun i p c hp hc=>?_⟩
    have:=h7.2 i (.p p) c (by simp [hp]) hc
    exact p.mono le_aft this
  | @kptr o g off hK=>obtain ⟨b,c,h1,h2⟩:=hc;exact ⟨b,c,by simpa [muK,hK] using h1,h2⟩
  | @kosl o g es lo len hK=>obtain ⟨m,c,h1,h2⟩:=hc;exact ⟨m,c,by simpa [muK,hK] using h1,h2⟩
  | @kasl o g off len cap hK=>obtain ⟨b,c,h1,h2⟩:=hc;exact ⟨b,c,by simpa [muK,hK] using h1,h2⟩
  | @kfn f o g pre post hK=>
    obtain ⟨vs,us,b,c,h1,h2,h3,h4⟩:=hc
    exact ⟨vs,us,b,c,by simpa [muK,hK] using h1,h2,h3.mono fun p _ hp=>p.mono le_aft hp,h4.mono fun p _ hp=>p.mono le_aft hp⟩
theorem FinL.holds (h:RelG C σ a w G) {cs ds:List AC} (hf:All2 (FinC σ K) cs ds) {vs:List Value} (hc:All2 (AC.holds G.μ ⟨w,G.S⟩) cs vs):All2 (AC.holds (muK K G) ⟨w,aftS K G⟩) ds vs:=by
  refine ⟨hf.1.symm.trans hc.1,fun i d v hd hv=>?_⟩
  have hi:i < cs.length:=by rw [hf.1];exact (List.getElem?_eq_some_iff.1 hd).1
  have hci:cs[i]?=some cs[i]:=by simp [hi]
  exact FinC.holds h (hf.2 i _ d hci hd) (hc.2 i _ v hci hv)
theorem FinS.holds (h:RelG C σ a w G) {s s':SV} (hf:FinS σ K s s') {v:Value} (hc:s.holds G.μ ⟨w,G.S⟩ v):s'.holds (muK K G) ⟨w,aftS K G⟩ v:=by
  cases hf with
  | one hf=>exact FinC.holds h hf hc
  | agg hf=>obtain ⟨arr,rfl,h1⟩:=hc;exact ⟨arr,rfl,FinL.holds h hf h1⟩
theorem cell_row {w:World} {b:Nat} {arr:List Value} {ty:TypeId} {fr:Nat × Nat} (h:w.heap[b]?=some (.cells arr.toArray ty fr)) (j:Nat):w.cell? ⟨b,j,none⟩=arr[j]?:=by
  rw [cell_of_row w b j _ _ _ h];simp
theorem add_addr (b o n:Nat):(⟨b,o,none⟩:Addr).add n=⟨b,o+n,none⟩:=by
  unfold Addr.add;split<;>simp_all
theorem run_loadVar {P:Program} {T:TypeId} {k:TK} {sz by_:Nat} (hT:TI P T k sz by_) {w:World} {b off:Nat} {arr:List Value} {ty:TypeId} {fr:Nat × Nat} (h:w.heap[b]?=some (.cells arr.toArray ty fr))
    (hl:off+sz≤arr.length) (h1:k.agg=false→sz=1) :
    (loadVar T ⟨b,off,none⟩).run P w=.ok (if k.agg then .agg ((arr.drop off).take sz).toArray else arr.getD off undef) w:=by
  unfold loadVar
  rw [Sem.run_bind,hT.run_isAgg w]
  simp only [Result.andThen_ok]
  cases hk:k.agg with
  | true=>
    have hc:=run_loadCells_list (P:=P) w ⟨b,off,none⟩ ((arr.drop off).take sz) (fun j v hv=>by
      rw [add_addr,cell_row h]
      rw [List.getElem?_take] at hv
      split at hv
      · simpa using hv
      · cases hv)
    have hlen:((arr.drop off).take sz).length=sz:=by simp;omega
    rw [hlen] at hc
    simp [hT.run_sizeOf,hc]
  | false=>
    have:=h1 hk
    simp only [Bool.false_eq_true,if_false,run_load,cell_row h]
    have hlt:off < arr.length:=by omega
    simp [hlt]
def resSem (tmps:Array Value):ResultVar→Sem Value
  | .tmp t=>pure (tmps.getD t undef)
  | .cell x t=>do loadVar t (← asAddr (tmps.getD x undef))
theorem Res.run (h:RelG C σ a w G) {rv:ResultVar} {s:SV} (hr:Res C.P σ K rv s) :
    ∃ v,(resSem a.tmps rv).run C.P w=.ok v w∧s.holds (muK K G) ⟨w,aftS K G⟩ v:=by
  cases hr with
  | @tmp t s s' he hf=>
    have:=h.env t
    rw [he] at this
    exact ⟨_,rfl,FinS.holds h hf this⟩
  | @cell t ty o g ty' sz by_ k cs ds he hm hT hk hs hf=>
    have h1:=h.env t
    rw [he] at h1
    obtain ⟨b,c,h2,h3⟩:=h1
    obtain ⟨g',m',hg,hm',b',arr,h4,h5,h6,h7⟩:=h.mem _ _ _ hm
    obtain rfl:g=g':=by omega
    rw [h2] at hm'
    obtain rfl:=Option.some.inj hm'
    simp only [Option.some.injEq] at h4
    subst h4
    have hlen:arr.length=sz:=by rw [← hs];exact h7.1.symm
    refine ⟨.agg arr.toArray,?_,arr,rfl,FinL.holds h hf h7⟩
    have:=run_loadVar hT h6 (off:=0) (by omega) (by simp [hk])
    simp only [hk,if_true,List.drop_zero] at this
    rw [List.take_of_length_le (by omega)] at this
    simp only [resSem,h3,asAddr,Sem.run_bind,Sem.run_pure,Result.andThen_ok,this]
theorem results_run (h:RelG C σ a w G) {fn:Func} {l:List SV} (hr:All2 (Res C.P σ K) fn.results.toList l) :
    ∃ v,(results fn a.tmps).run C.P w=.ok v w∧(resAV l).holds (muK K G) ⟨w,aftS K G⟩ v:=by
  have key:∀ (rs:List ResultVar) (l:List SV),All2 (Res C.P σ K) rs l→∃ vs:List Value,(rs.mapM (resSem a.tmps)).run C.P w=.ok vs w∧All2 (SV.holds (muK K G) ⟨w,aftS K G⟩) l vs:=by
    intro rs
    induction rs with
    | nil=>intro l hl;obtain rfl:=hl.nil_inv;exact ⟨[],rfl,.nil⟩
    | cons r rs ih=>
      intro l hl
      obtain ⟨s,l',rfl,h1,h2⟩:=hl.cons_inv
      obtain ⟨v,hv,hs⟩:=Res.run h h1
      obtain ⟨vs,hvs,hss⟩:=ih l' h2
      exact ⟨v::vs,by simp [List.mapM_cons,hv,hvs],.cons hs hss⟩
  obtain ⟨vs,hvs,hss⟩:=key _ _ hr
  have hm:(fn.results.mapM (resSem a.tmps)).run C.P w=.ok vs.toArray w:=by
    have e:fn.results.mapM (resSem a.tmps)=List.toArray <$> fn.results.toList.mapM (resSem a.tmps):=by
      rw [Array.mapM_eq_mapM_toList]
    rw [e]
    simp [hvs]
  have hdef:results fn a.tmps=(do
    let vs ← fn.results.mapM (resSem a.tmps)
    pure (if h:vs.size=1 then vs[0] else .tuple vs)):=rfl
  refine ⟨if h:vs.toArray.size=1 then vs.toArray[0] else .tuple vs.toArray,?_,?_⟩
  · rw [hdef,Sem.run_bind,hm];rfl
  · match l,vs,hss with
    | [s],vs,hss=>
      obtain ⟨v,vs',rfl,h1,h2⟩:=hss.cons_inv
      obtain rfl:=h2.nil_inv
      simpa [resAV,AV.holds] using h1
    | [],vs,hss=>
      obtain rfl:=hss.nil_inv
      exact ⟨[],by simp,.nil⟩
    | s::s'::l,vs,hss=>
      have hlen:=hss.1
      have:¬ vs.toArray.size=1:=by simp at hlen ⊢;omega
      rw [dif_neg this]
      exact ⟨vs,rfl,hss⟩
theorem RelG.take (h:RelG C σ a w G) {b:Nat} {ds:List Deferred} (hd:a.defers=markOf b::ds) :
    (Instr.takeDeferred b).run C.P w=.ok [] (w.putObj b (.deferred none))∧RelG C σ { a with defers:=ds } (w.putObj b (.deferred none)) G:=by
  obtain ⟨b',he,h1,h2,h3,h4,h5⟩:=h.defers (markOf b) (by rw [hd];simp)
  obtain rfl:b=b':=by simpa [markOf] using he
  have hother:∀ k,k≠b→(w.putObj b (.deferred none)).heap[k]?=w.heap[k]?:=fun k hk=>World.putObj_heap_other hk
  have hle:Wd.le ⟨w,G.S⟩ ⟨w.putObj b (.deferred none),G.S⟩:=fun k hk=>⟨hk,hother k fun e=>h4 (e ▸ hk)⟩
  have hnd:=h.dnod
  rw [hd,List.nodup_cons] at hnd
  refine ⟨run_takeDeferred h3,?_⟩
  exact {
    size:=h.size
    defers:=fun d hdd=>by
      obtain ⟨c,rfl,k1,k2,k3,k4,k5⟩:=h.defers d (by rw [hd];simp [hdd])
      refine ⟨c,rfl,k1,by simpa using k2,(hother c fun e=>?_).trans k3,k4,k5⟩
      subst e;exact hnd.1 hdd
    dnod:=hnd.2
    mle:=h.mle
    env:=fun t=>(h.env t).mono (Mu.le.refl _) hle
    gens:=h.gens
    mem:=fun o n mo ho=>by
      obtain ⟨g,m,hn,hm,hh⟩:=h.mem o n mo ho
      exact ⟨g,m,hn,hm,hh.mono (Mu.le.refl _) hle fun k hk=>hother k fun e=>h5 o (e ▸ hk)⟩
    apart:=h.apart
    stab:=h.stab
    own:=fun o k hk=>⟨(h.own o k hk).1,by simpa using (h.own o k hk).2⟩
    sbd:=fun k hk=>⟨by simpa using (h.sbd k hk).1,(h.sbd k hk).2⟩
    ssub:=h.ssub
    fr:=⟨h.fr.os,⟨h.fr.tape.eq,h.fr.tape.le⟩,h.fr.output,by simpa using h.fr.size,fun k hk hf=>(hother k (by omega)).trans (h.fr.block k hk hf)⟩ }
theorem leaves_of {R:Ending→World→Prop} {fn:Func}:∀ (ds:List Deferred) (a:Act) (w:World),a.defers=ds→RelG C σ a w G→
    (∀ a2 w2,a2.tmps=a.tmps→RelG C σ a2 w2 G→∃ v,(results fn a2.tmps).run C.P w2=.ok v w2∧R (.returned v) w2)→
    LeavesInM (fz none) 0 C.P fn a.tmps R ds .returning w
  | [],a,w,_,h,hr=>hr a w rfl h
  | d::ds,a,w,hd,h,hr=>by
    obtain ⟨b,rfl,_⟩:=h.defers d (by rw [hd];simp)
    obtain ⟨h1,h2⟩:=h.take hd
    exact ⟨by simp,.inl ⟨b,_,rfl,h1,leaves_of ds { a with defers:=ds } _ rfl h2 fun a2 w2 e hr2=>hr a2 w2 e hr2⟩⟩
end finish
/-! ### Contracts with objects -/
structure ObjG (mem:Nat→Nat × Option MO) (w:World) (G:Gh):Prop where
  gens:∀ o,(G.μ o).length=(mem o).1
  mem:∀ o n mo,mem o=(n,some mo)→∃ g m,n=g+1∧(G.μ o)[g]?=some m∧mo.holds G.μ ⟨w,G.S⟩ m (G.φ o)
  apart:∀ o o' b,o≠o'→b∈G.φ o→b∈G.φ o'→False
  stab:∀ o b,b∈G.φ o→¬ G.S b
  own:∀ o b,b∈G.φ o→b < w.heap.size
  sbd:∀ b,G.S b→b < w.heap.size
structure FrF (F:Nat→Prop) (w w':World):Prop where
  os:w'.os=w.os
  tape:TL w' w
  output:w'.output=w.output
  size:w.heap.size≤w'.heap.size
  block:∀ k,k < w.heap.size→¬ F k→w'.heap[k]?=w.heap[k]?
def OCall (P:Program) (f:FuncId) (args:List AV) (m0:Nat→Nat × Option MO) (r:AV) (m1:Nat→Nat × Option MO):Prop:=
  ∀ (w:World) (G:Gh) (vs:List Value),ObjG m0 w G→All2 (AV.holds G.μ ⟨w,G.S⟩) args vs→
    Calls P f vs.toArray w fun e w'=>∃ v G',e=.returned v∧r.holds G'.μ ⟨w',G'.S⟩ v∧ObjG m1 w' G'∧
      (∀ b,G.S b→G'.S b)∧(∀ b,G'.S b→G.S b∨w.heap.size≤b∨∃ o,b∈G.φ o)∧(∀ o b,b∈G'.φ o→w.heap.size≤b∨∃ o',b∈G.φ o')∧
      G.μ.le G'.μ∧FrF (fun b=>∃ o,b∈G.φ o) w w'
theorem rel_start {P:Program} {fn:Func} {args:List AV} {m0:Nat→Nat × Option MO} {w:World} {G:Gh} {vs:List Value} (ho:ObjG m0 w G) (ha:All2 (AV.holds G.μ ⟨w,G.S⟩) args vs) :
    RelG ⟨P,w,fun b=>∃ o,b∈G.φ o,G.S,max args.length fn.ntmps,none,G.μ⟩ ⟨fun t=>args.getD t .un,m0⟩ { tmps:=vs.toArray++Array.replicate (fn.ntmps - vs.toArray.size) undef,defers:=[] } w G:=by
  have hlen:vs.length=args.length:=ha.1.symm
  exact {
    size:=by simp [hlen];omega
    defers:=fun d hd=>by simp at hd
    dnod:=by simp
    mle:=Mu.le.refl _
    env:=fun t=>by
      rcases Nat.lt_or_ge t args.length with ht|ht
      · have h1:args[t]?=some args[t]:=by simp [ht]
        have h2:vs[t]?=some (vs[t]'(by omega)):=by simp [hlen,ht]
        have:=ha.2 t _ _ h1 h2
        have e1:args.getD t .un=args[t]:=by simp [ht]
        have e2:(vs.toArray++Array.replicate (fn.ntmps - vs.toArray.size) undef).getD t undef=vs[t]'(by omega):=by
          simp [Array.getElem?_append,hlen,ht]
        show (args.getD t .un).holds _ _ _
        rw [e1,e2];exact this
      · have e1:args.getD t .un=.un:=by simp [ht]
        show (args.getD t .un).holds _ _ _
        rw [e1];trivial
    gens:=ho.gens
    mem:=ho.mem
    apart:=ho.apart
    stab:=ho.stab
    own:=fun o b hb=>⟨.inr ⟨o,hb⟩,ho.own o b hb⟩
    sbd:=fun b hb=>⟨ho.sbd b hb,.inl hb⟩
    ssub:=fun b hb=>hb
    fr:=⟨rfl,.same,rfl,Nat.le_refl _,fun _ _ _=>rfl⟩ }
def OPost (r:AV) (m1:Nat→Nat × Option MO) (w:World) (G:Gh) (e:Ending) (w':World):Prop:=
  ∃ v G',e=.returned v∧r.holds G'.μ ⟨w',G'.S⟩ v∧ObjG m1 w' G'∧
      (∀ b,G.S b→G'.S b)∧(∀ b,G'.S b→G.S b∨w.heap.size≤b∨∃ o,b∈G.φ o)∧(∀ o b,b∈G'.φ o→w.heap.size≤b∨∃ o',b∈G.φ o')∧
      G.μ.le G'.μ∧FrF (fun b=>∃ o,b∈G.φ o) w w'
theorem ocall_at {P:Program} {f:FuncId} {fn:Func} {body:Code} {args:List AV} {r:AV} (K:Nat→Bool) {m0 m1:Nat→Nat × Option MO} (hf:P.funcs[f]?=some fn) (hb:fn.body=some body)
    (hK:∀ o,K o=false→m0 o=(0,none)) {w:World} {G:Gh} {vs:List Value} (ho:ObjG m0 w G) (ha:All2 (AV.holds G.μ ⟨w,G.S⟩) args vs)
    (h:AWs ⟨P,w,fun b=>∃ o,b∈G.φ o,G.S,max args.length fn.ntmps,none,G.μ⟩ [body] (RetO P fn r K m1) ⟨fun t=>args.getD t .un,m0⟩):Calls P f vs.toArray w (OPost r m1 w G):=by
  refine (callsIn_wide (n:=0)).1 ?_
  refine callsIn_of_wp_marks (F:=fz none) hf hb trivial ?_ rfl
  refine wpIn_mono (aws_one h _ w ⟨G,rel_start ho ha⟩) ?_
  rintro e a' w' ⟨σ',hq,G',hG⟩
  have hsub:∀ b,G'.S b→G.S b∨w.heap.size≤b∨∃ o,b∈G.φ o:=fun b hb=>(hG.sbd b hb).2
  have hown:∀ o b,b∈G'.φ o→w.heap.size≤b∨∃ o',b∈G.φ o':=fun o b hb=>(hG.own o b hb).1
  have fin:RetO P fn r K m1 .ret σ'→LeavesInM (fz none) 0 P fn a'.tmps (fun e w'=>∃ v G',e=.returned v∧r.holds G'.μ ⟨w',G'.S⟩ v∧ObjG m1 w' G'∧
      (∀ b,G.S b→G'.S b)∧(∀ b,G'.S b→G.S b∨w.heap.size≤b∨∃ o,b∈G.φ o)∧(∀ o b,b∈G'.φ o→w.heap.size≤b∨∃ o',b∈G.φ o')∧
      G.μ.le G'.μ∧FrF (fun b=>∃ o,b∈G.φ o) w w') a'.defers .returning w':=by
    rintro ⟨⟨l,rfl,hl⟩,hm,hm0⟩
    refine leaves_of _ a' w' rfl hG fun a2 w2 ht h2=>?_
    obtain ⟨v,hv,hh⟩:=results_run h2 hl
    refine ⟨v,hv,v,⟨muK K G',aftS K G',fun o=>if K o=true then G'.φ o else []⟩,rfl,hh,?_,?_,?_,?_,?_,?_⟩
    · exact {
        gens:=fun o=>by
          by_cases hk:K o=true
          · have:=h2.gens o
            simp only [muK,hk,if_true]
            have hf:=hm o hk
            rw [this]
            generalize σ'.mem o=x at hf
            generalize m1 o=y at hf
            cases hf<;>rfl
          · have hk':K o=false:=by simpa using hk
            simp [muK,hk',hm0 o hk']
        mem:=fun o n mo ho=>by
          by_cases hk:K o=true
          · have hf:=hm o hk
            simp only [muK,hk,if_true]
            rw [ho] at hf
            generalize hx:σ'.mem o=x at hf
            have base:∀ (n:Nat) (mo:MO),(∀ m fp,mo.holds G'.μ ⟨w2,G'.S⟩ m fp→mo.holds (muK K G') ⟨w2,aftS K G'⟩ m fp)→σ'.mem o=(n,some mo)→
                ∃ g m,n=g+1∧(G'.μ o)[g]?=some m∧mo.holds (muK K G') ⟨w2,aftS K G'⟩ m (G'.φ o):=fun n mo hq hx=>by
              obtain ⟨g,m,k1,k2,k3⟩:=h2.mem o n mo hx
              exact ⟨g,m,k1,k2,hq _ _ k3⟩
            cases hf with
            | buf=>exact base _ _ (fun m fp hh=>hh.mono (μ:=G'.μ) (μ':=G'.μ) (Mu.le.refl _) le_aft fun _ _=>rfl) hx
            | frz=>exact base _ _ (fun m fp hh=>hh.mono (μ:=G'.μ) (μ':=G'.μ) (Mu.le.refl _) le_aft fun _ _=>rfl) hx
            | abs=>exact base _ _ (fun m fp hh=>hh.mono (μ:=G'.μ) (μ':=G'.μ) (Mu.le.refl _) le_aft fun _ _=>rfl) hx
            | box hf=>
              obtain ⟨g,m,k1,k2,b,arr,k3,k4,k5,k6⟩:=h2.mem o _ _ hx
              exact ⟨g,m,k1,k2,b,arr,k3,k4,k5,FinL.holds h2 hf k6⟩
          · have hk':K o=false:=by simpa using hk
            rw [hm0 o hk'] at ho;simp at ho
        apart:=fun o o' b hne h1 h2'=>by
          by_cases hk:K o=true<;>simp only [hk,if_true,if_false] at h1
          · by_cases hk':K o'=true<;>simp only [hk',if_true,if_false] at h2'
            · exact h2.apart o o' b hne h1 h2'
            · simp at h2'
          · simp at h1
        stab:=fun o b hb hs=>by
          by_cases hk:K o=true<;>simp only [hk,if_true,if_false] at hb
          · rcases hs with hs | ⟨o',hk',hs⟩
            · exact h2.stab o b hb hs
            · refine h2.apart o o' b (fun e=>?_) hb hs
              rw [e,hk'] at hk;cases hk
          · simp at hb
        own:=fun o b hb=>by
          by_cases hk:K o=true<;>simp only [hk,if_true,if_false] at hb
          · exact (h2.own o b hb).2
          · simp at hb
        sbd:=fun b hb=>by
          rcases hb with hb | ⟨o,_,hb⟩
          · exact (h2.sbd b hb).1
          · exact (h2.own o b hb).2 }
    · exact fun b hb=>.inl (h2.ssub b hb)
    · rintro b (hb | ⟨o,_,hb⟩)
      · exact hsub b hb
      · rcases hown o b hb with h1|h1
        · exact .inr (.inl h1)
        · exact .inr (.inr h1)
    · intro o b hb
      by_cases hk:K o=true<;>simp only [hk,if_true,if_false] at hb
      · exact hown o b hb
      · simp at hb
    · intro o g x hx
      have:=h2.mle o g x hx
      by_cases hk:K o=true
      · simpa [muK,hk] using this
      · have hk':K o=false:=by simpa using hk
        have h3:=ho.gens o
        rw [hK o hk'] at h3
        have:G.μ o=[]:=List.eq_nil_of_length_eq_zero h3
        rw [this] at hx;simp at hx
    · exact ⟨h2.fr.os,h2.fr.tape,h2.fr.output,h2.fr.size,h2.fr.block⟩
  cases e with
  | ret=>exact fin hq
  | normal=>exact fin hq
  | exit id=>exact hq.elim
  | goto l=>exact hq.elim
  | panic ch=>exact hq.elim
  | outgrown=>exact hq.elim
theorem ocall_of {P:Program} {f:FuncId} {fn:Func} {body:Code} {args:List AV} {r:AV} (K:Nat→Bool) {m0 m1:Nat→Nat × Option MO} (hf:P.funcs[f]?=some fn) (hb:fn.body=some body)
    (hK:∀ o,K o=false→m0 o=(0,none))
    (h:∀ w0 F S0 M0,AWs ⟨P,w0,F,S0,max args.length fn.ntmps,none,M0⟩ [body] (RetO P fn r K m1) ⟨fun t=>args.getD t .un,m0⟩):OCall P f args m0 r m1:=
  fun w G vs ho ha=>ocall_at K hf hb hK ho ha (h w _ _ _)
theorem Ret.retO {P:Program} {fn:Func} {r:AV} {e:Exit} {σ:St} (h:Ret P fn r e σ):RetO P fn r kNone (fun _=>(0,none)) e σ:=by
  cases e<;>first|exact h.elim|exact ⟨h,fun o hk=>absurd hk (by simp [kNone]),fun _ _=>rfl⟩
theorem pcall_of_ocall {P:Program} {f:FuncId} {args:List AV} {r:AV} (h:OCall P f args (fun _=>(0,none)) r (fun _=>(0,none))):PCall P f args r:=by
  intro w S vs hS ha
  refine (h w ⟨Mu.none,S,fun _=>[]⟩ vs ⟨fun o=>rfl,fun o n mo ho=>by simp at ho,fun o o' b _ hb=>by simp at hb,fun o b hb=>by simp at hb,fun o b hb=>by simp at hb,hS⟩ ha).mono ?_
  rintro e w' ⟨v,G',rfl,hr,ho,h1,h2,h3,h4,h5⟩
  have hmu:G'.μ=Mu.none:=funext fun o=>List.eq_nil_of_length_eq_zero (ho.gens o)
  rw [hmu] at hr
  refine ⟨v,rfl,⟨G'.S,h1,fun b hb=>?_,hr⟩,⟨h5.os,h5.tape.eq,h5.output,h5.size,fun k hk=>h5.block k hk fun ⟨o,ho⟩=>by simp at ho⟩,h5.tape.le⟩
  rcases h2 b hb with h6|h6 | ⟨o,h6⟩
  · exact .inl h6
  · exact .inr ⟨h6,ho.sbd b hb⟩
  · simp at h6
theorem pcall_of {P:Program} {f:FuncId} {fn:Func} {body:Code} {args:List AV} {r:AV} (hf:P.funcs[f]?=some fn) (hb:fn.body=some body)
    (h:∀ w0 F S0 M0,AWs ⟨P,w0,F,S0,max args.length fn.ntmps,none,M0⟩ [body] (Ret P fn r) (St.init args)):PCall P f args r:=
  pcall_of_ocall (ocall_of kNone hf hb (fun _ _=>rfl) fun w0 F S0 M0=>aws_mono (fun e s hq=>hq.retO) (h w0 F S0 M0))
/-! ### Calling -/
def Ent (a b:AV):Prop:=∀ μ X v,a.holds μ X v→b.holds Mu.none X v
theorem Ent.p {x:PVal}:Ent (.p x) (.p x):=fun μ X v h=>h
theorem Ent.nil {es:Nat} {ex:Bool}:Ent (.p (.v (.slice none 0 0))) (.p (.sl es [] ex)):=by
  rintro μ X v ⟨rfl,_⟩
  exact ⟨none,0,rfl,Nat.le_refl _,by simp [maxLen],fun _=>rfl,rfl,rfl⟩
theorem Ent.ex {es:Nat} {rows:List (List PVal)}:Ent (.p (.sl es rows true)) (.p (.sl es rows false)):=by
  rintro μ X v ⟨base,cap,h1,h2,h3,h4,h5⟩
  exact ⟨base,cap,h1,h2,h3,by simp,h5⟩
def AC.isP:AC→Bool | .p _=>true|_=>false
theorem AC.holds.none {μ:Mu} {X:Wd} {c:AC} {v:Value} (hc:c.isP=true) (h:c.holds μ X v):c.holds Mu.none X v:=by
  cases c<;>simp_all [AC.isP,AC.holds]
theorem Ent.agg {cs:List AC} (h:∀ c∈cs,c.isP=true):Ent (.a cs) (.a cs):=by
  rintro μ X v ⟨arr,rfl,h1⟩
  refine ⟨arr,rfl,h1.1,fun i c x hc hx=>(h1.2 i c x hc hx).none (h c (List.mem_of_getElem? hc))⟩
theorem calls_frame {C:Ctx} {σ:St} {a:Act} {w:World} {G:Gh} (h:RelG C σ a w G) {f:FuncId} {args:List AV} {r:AV} (hc:PCall C.P f args r) {vs:List Value} (hv:All2 (AV.holds Mu.none ⟨w,G.S⟩) args vs)
    {d:Option Nat} (hd:dOk C d=true) {K:Act→World→Prop} {Q:Exit→Act→World→Prop} (hK:∀ a' w',Rel C (σ.set d r) a' w'→K a' w') :
    Calls C.P f vs.toArray w fun
      | .returned v,w''=>K (a.put d v) w''
      | .panicked chain,w''=>Q (.panic chain) a w''
      | .outgrown,_=>LetsOut Q:=by
  refine (hc w G.S vs (fun b hb=>(h.sbd b hb).1) hv).mono ?_
  rintro e w' ⟨v,rfl,⟨S',hS1,hS2,hr⟩,hb,hdr⟩
  have h1:=h.world (Quiet.of_below hb hdr) (fun b=>w.heap.size≤b∧b < w'.heap.size) (fun b hb=>hb)
  exact hK _ _ ⟨_,h1.setv hd (hr.mono (Mu.none_le _) fun b hb'=>⟨hS2 b hb',rfl⟩)⟩
theorem lop_call {C:Ctx} {o:Oper} {σ:St} {f:FuncId} {as:Array Operand} {ts:Array TypeId} {args:List AV} {r:AV} [hfn:FnT C.P f] (ho:o.op=.call ⟨.value (.func f),as,ts⟩)
    (hE:All2 Ent (as.toList.map σ.look) args) (hc:PCall C.P f args r) (hd:dOk C o.dst=true):LOp C o σ ⟨r,[]⟩ (fun _=>false):=by
  refine ⟨fun x m h=>by simp at h,fun τ hl hm a w ⟨G,h⟩ K Q hK=>?_⟩
  have hE':All2 Ent (as.toList.map τ.look) args:=by
    have:as.toList.map τ.look=as.toList.map σ.look:=List.map_congr_left fun x hx=>hl x (by rw [ho];simp [Op.operands,Call.operands];right;simpa using hx)
    rw [this];exact hE
  have hv:All2 (AV.holds Mu.none ⟨w,G.S⟩) args (as.toList.map a.eval):=by
    refine ⟨by have:=hE'.1;simpa using this.symm,fun i av v hav hvv=>?_⟩
    rw [List.getElem?_map] at hvv
    cases hx:as.toList[i]? with
    | none=>rw [hx] at hvv;cases hvv
    | some x=>
      rw [hx] at hvv;simp at hvv;subst hvv
      exact hE'.2 i (τ.look x) av (by simp [List.getElem?_map,hx]) hav _ _ _ (h.look x)
  obtain ⟨fn,h1,h2,h3⟩:=hfn.fn
  have hrun:(execOp a.eval o).run C.P w=.ok (.enter f (as.map a.eval)) w:=by
    have e1:a.eval (.func f)=.func (.func f) #[] #[]:=rfl
    have hname : (fn.name == "runtime.NumGoroutine") = false := h2
    cases hbody:fn.body with
    | none=>simp [hbody] at h3
    | some c => simp [execOp, ho, resolve, e1, Deferred.ofValue, invoke, callFunc, program, Sem.run, Sem.run_bind, h1, hbody, pure, show ¬ fn.name = "runtime.NumGoroutine" from by simpa using hname]
  refine wpIn_exec (by rw [ho];intro c h;cases h) ?_
  rw [hrun,Oper.uponIn_enter]
  have h9:=calls_frame h hc hv (d:=o.dst) hd (K:=K) (Q:=Q) hK
  have e:(as.toList.map a.eval).toArray=as.map a.eval:=by rw [← Array.toList_map]
  rw [e] at h9
  exact ⟨by simp [fz,Fence.wide],(callsIn_wide (n:=0)).2 h9⟩
end Go.Aw
/- THE ABSTRACT WALK, part 4: operations that reckon or read. -/
namespace Go.Aw
open Go Go.RowKit
set_option linter.unusedVariables false
set_option linter.unusedSimpArgs false
section ops
variable {C:Ctx} {o:Oper} {σ:St}
theorem lop_val {av:AV} {ro:Nat→Bool} (hd:dOk C o.dst=true)
    (h:∀ τ a w G,(∀ x,x∈o.op.operands→τ.look x=σ.look x)→(∀ x,ro x=true→τ.mem x=σ.mem x)→RelG C τ a w G→
      ∃ v,(execOp a.eval o).run C.P w=.ok (.value v) w∧av.holds G.μ ⟨w,G.S⟩ v):LOp C o σ ⟨av,[]⟩ ro:=by
  refine ⟨fun x m h=>by simp at h,fun τ hl hm a w ⟨G,hG⟩ K Q hK=>?_⟩
  obtain ⟨v,hv,hh⟩:=h τ a w G hl hm hG
  refine wpIn_exec (notDefer hv (by first|(intro d h;cases h;done)|(rcases h0 with rfl | ⟨rfl,_⟩<;>intro d h<;>cases h))) ?_
  rw [hv]
  exact hK _ _ ⟨G,hG.setv hd hh⟩
theorem lop_grow {av:AV} {ro:Nat→Bool} (hd:dOk C o.dst=true)
    (h:∀ τ a w G,(∀ x,x∈o.op.operands→τ.look x=σ.look x)→(∀ x,ro x=true→τ.mem x=σ.mem x)→RelG C τ a w G→
      ∃ v w',(execOp a.eval o).run C.P w=.ok (.value v) w'∧Quiet w w'∧av.holds G.μ ⟨w',fun b=>G.S b∨(w.heap.size≤b∧b < w'.heap.size)⟩ v):LOp C o σ ⟨av,[]⟩ ro:=by
  refine ⟨fun x m h=>by simp at h,fun τ hl hm a w ⟨G,hG⟩ K Q hK=>?_⟩
  obtain ⟨v,w',hv,hq,hh⟩:=h τ a w G hl hm hG
  refine wpIn_exec (notDefer hv (by first|(intro d h;cases h;done)|(rcases h0 with rfl | ⟨rfl,_⟩<;>intro d h<;>cases h))) ?_
  rw [hv]
  exact hK _ _ ⟨_,(hG.world hq (fun b=>w.heap.size≤b∧b < w'.heap.size) (fun b hb=>hb)).setv hd hh⟩
theorem look_of {τ:St} {a:Act} {w:World} {G:Gh} (h:RelG C τ a w G) {x:Operand} {av:AV} (hx:τ.look x=av):av.holds G.μ ⟨w,G.S⟩ (a.eval x):=hx ▸ h.look x
theorem val_of {τ:St} {a:Act} {w:World} {G:Gh} (h:RelG C τ a w G) {x:Operand} {c:Value} (hx:τ.look x=.p (.v c)):a.eval x=c:=(look_of h hx).1
theorem lop_move {x:Operand} {av:AV} (ho:o.op=.move x) (hx:σ.look x=av) (hd:dOk C o.dst=true):LOp C o σ ⟨av,[]⟩ (fun _=>false):=
  lop_val hd fun τ a w G hl hm h=>⟨a.eval x,by simp [execOp,ho],look_of h (by rw [hl x (by simp [ho,Op.operands])];exact hx)⟩
theorem lop_assign {x:Operand} {av:AV} (ho:o.op=.assign x) (hx:σ.look x=av) (hd:dOk C o.dst=true):LOp C o σ ⟨av,[]⟩ (fun _=>false):=
  lop_val hd fun τ a w G hl hm h=>⟨a.eval x,by simp [execOp,ho],look_of h (by rw [hl x (by simp [ho,Op.operands])];exact hx)⟩
theorem lop_pick_t {c x y:Operand} {b:Bool} {av:AV} (ho:o.op=.pick c x y) (hc:σ.look c=.p (.v (.bool b))) (hb:b=true) (hx:σ.look x=av) (hd:dOk C o.dst=true):LOp C o σ ⟨av,[]⟩ (fun _=>false):=
  lop_val hd fun τ a w G hl hm h=>by
    have hcv:=val_of h ((hl c (by simp [ho,Op.operands])).trans hc)
    exact ⟨a.eval x,by simp [execOp,ho,hcv,asBool,hb],look_of h (by rw [hl x (by simp [ho,Op.operands])];exact hx)⟩
theorem lop_pick_f {c x y:Operand} {b:Bool} {av:AV} (ho:o.op=.pick c x y) (hc:σ.look c=.p (.v (.bool b))) (hb:b=false) (hx:σ.look y=av) (hd:dOk C o.dst=true):LOp C o σ ⟨av,[]⟩ (fun _=>false):=
  lop_val hd fun τ a w G hl hm h=>by
    have hcv:=val_of h ((hl c (by simp [ho,Op.operands])).trans hc)
    exact ⟨a.eval y,by simp [execOp,ho,hcv,asBool,hb],look_of h (by rw [hl y (by simp [ho,Op.operands])];exact hx)⟩
theorem lop_bin {op:BinOp} {t t':TypeId} {x y:Operand} {vx vy r:Value} (ho:o.op=.binOp op t x y t') (hx:σ.look x=.p (.v vx)) (hy:σ.look y=.p (.v vy))
    (hr:∀ w:World,(do eqGuard op t x y vx vy;binOp op t vx vy:Sem Value).run C.P w=.ok r w) (h1:r.oneCell'=true) (hd:dOk C o.dst=true):LOp C o σ ⟨.p (.v r),[]⟩ (fun _=>false):=
  lop_val hd fun τ a w G hl hm h=>by
    have e1:=val_of h ((hl x (by simp [ho,Op.operands])).trans hx)
    have e2:=val_of h ((hl y (by simp [ho,Op.operands])).trans hy)
    refine ⟨r,?_,rfl,h1⟩
    simp only [execOp,ho,e1,e2]
    rw [Sem.run_bind,hr w];rfl
section int
variable {t t':TypeId} {x y:Operand} {k k':IntKind} {m n:Int}
theorem eqg_int (op:BinOp) (w:World):(eqGuard op t x y (.int k m) (.int k' n)).run C.P w=.ok () w:=by
  unfold eqGuard;cases op<;>simp [pure]
theorem lop_add (ho:o.op=.binOp .add t x y t') (hx:σ.look x=.p (.v (.int k m))) (hy:σ.look y=.p (.v (.int k n))) (hd:dOk C o.dst=true):LOp C o σ ⟨.p (.v (.int k (k.wrap (m+n)))),[]⟩ (fun _=>false):=
  lop_bin ho hx hy (fun w=>by simp [eqg_int,binOp,Op.intArith]) rfl hd
theorem lop_sub (ho:o.op=.binOp .sub t x y t') (hx:σ.look x=.p (.v (.int k m))) (hy:σ.look y=.p (.v (.int k n))) (hd:dOk C o.dst=true):LOp C o σ ⟨.p (.v (.int k (k.wrap (m - n)))),[]⟩ (fun _=>false):=
  lop_bin ho hx hy (fun w=>by simp [eqg_int,binOp,Op.intArith]) rfl hd
theorem lop_mul (ho:o.op=.binOp .mul t x y t') (hx:σ.look x=.p (.v (.int k m))) (hy:σ.look y=.p (.v (.int k n))) (hd:dOk C o.dst=true):LOp C o σ ⟨.p (.v (.int k (k.wrap (m * n)))),[]⟩ (fun _=>false):=
  lop_bin ho hx hy (fun w=>by simp [eqg_int,binOp,Op.intArith]) rfl hd
theorem lop_add' (ho:o.op=.binOp .add t x y t') (hx:σ.look x=.p (.v (.int k m))) (hy:σ.look y=.p (.v (.int k n))) (hd:dOk C o.dst=true) (hw:k.wrap (m+n)=m+n):LOp C o σ ⟨.p (.v (.int k (m+n))),[]⟩ (fun _=>false):=by
  have:=lop_add ho hx hy hd;rwa [hw] at this
theorem lop_sub' (ho:o.op=.binOp .sub t x y t') (hx:σ.look x=.p (.v (.int k m))) (hy:σ.look y=.p (.v (.int k n))) (hd:dOk C o.dst=true) (hw:k.wrap (m - n)=m - n):LOp C o σ ⟨.p (.v (.int k (m - n))),[]⟩ (fun _=>false):=by
  have:=lop_sub ho hx hy hd;rwa [hw] at this
theorem lop_mul' (ho:o.op=.binOp .mul t x y t') (hx:σ.look x=.p (.v (.int k m))) (hy:σ.look y=.p (.v (.int k n))) (hd:dOk C o.dst=true) (hw:k.wrap (m * n)=m * n):LOp C o σ ⟨.p (.v (.int k (m * n))),[]⟩ (fun _=>false):=by
  have:=lop_mul ho hx hy hd;rwa [hw] at this
theorem lop_quo (ho:o.op=.binOp .quo t x y t') (hx:σ.look x=.p (.v (.int k m))) (hy:σ.look y=.p (.v (.int k n))) (hn:n≠0) (hd:dOk C o.dst=true):LOp C o σ ⟨.p (.v (.int k (k.wrap (m.tdiv n)))),[]⟩ (fun _=>false):=
  lop_bin ho hx hy (fun w=>by simp [eqg_int,binOp,Op.intDiv,hn]) rfl hd
theorem lop_quo' (ho:o.op=.binOp .quo t x y t') (hx:σ.look x=.p (.v (.int k m))) (hy:σ.look y=.p (.v (.int k n))) (hd:dOk C o.dst=true) (hm:0≤m) (hn:1≤n) (hw:k.wrap (m / n)=m / n):LOp C o σ ⟨.p (.v (.int k (m / n))),[]⟩ (fun _=>false):=by
  have:=lop_quo ho hx hy (by omega) hd;rwa [Int.tdiv_eq_ediv_of_nonneg hm,hw] at this
theorem lop_rem (ho:o.op=.binOp .rem t x y t') (hx:σ.look x=.p (.v (.int k m))) (hy:σ.look y=.p (.v (.int k n))) (hn:n≠0) (hd:dOk C o.dst=true):LOp C o σ ⟨.p (.v (.int k (m.tmod n))),[]⟩ (fun _=>false):=
  lop_bin ho hx hy (fun w=>by simp [eqg_int,binOp,Op.intDiv,hn]) rfl hd
theorem lop_rem' (ho:o.op=.binOp .rem t x y t') (hx:σ.look x=.p (.v (.int k m))) (hy:σ.look y=.p (.v (.int k n))) (hd:dOk C o.dst=true) (hm:0≤m) (hn:1≤n):LOp C o σ ⟨.p (.v (.int k (m % n))),[]⟩ (fun _=>false):=by
  have:=lop_rem ho hx hy (by omega) hd;rwa [Int.tmod_eq_emod_of_nonneg hm] at this
theorem lop_cmp {op:BinOp} {p:Prop} [Decidable p] (ho:o.op=.binOp op t x y t') (hx:σ.look x=.p (.v (.int k m))) (hy:σ.look y=.p (.v (.int k n)))
    (hr:∀ w:World,(binOp op t (.int k m) (.int k n)).run C.P w=.ok (.bool (decide p)) w) (hd:dOk C o.dst=true):LOp C o σ ⟨.p (.v (.bool (decide p))),[]⟩ (fun _=>false):=
  lop_bin ho hx hy (fun w=>by simp [eqg_int,hr]) rfl hd
theorem lop_lss (ho:o.op=.binOp .lss t x y t') (hx:σ.look x=.p (.v (.int k m))) (hy:σ.look y=.p (.v (.int k n))) (hd:dOk C o.dst=true):LOp C o σ ⟨.p (.v (.bool (decide (m < n)))),[]⟩ (fun _=>false):=
  lop_cmp ho hx hy (fun w=>by simp [binOp,Op.intCmp]) hd
theorem lop_leq (ho:o.op=.binOp .leq t x y t') (hx:σ.look x=.p (.v (.int k m))) (hy:σ.look y=.p (.v (.int k n))) (hd:dOk C o.dst=true):LOp C o σ ⟨.p (.v (.bool (decide (m≤n)))),[]⟩ (fun _=>false):=
  lop_cmp ho hx hy (fun w=>by simp [binOp,Op.intCmp]) hd
theorem lop_gtr (ho:o.op=.binOp .gtr t x y t') (hx:σ.look x=.p (.v (.int k m))) (hy:σ.look y=.p (.v (.int k n))) (hd:dOk C o.dst=true):LOp C o σ ⟨.p (.v (.bool (decide (n < m)))),[]⟩ (fun _=>false):=
  lop_cmp ho hx hy (fun w=>by simp [binOp,Op.intCmp]) hd
theorem lop_geq (ho:o.op=.binOp .geq t x y t') (hx:σ.look x=.p (.v (.int k m))) (hy:σ.look y=.p (.v (.int k n))) (hd:dOk C o.dst=true):LOp C o σ ⟨.p (.v (.bool (decide (n≤m)))),[]⟩ (fun _=>false):=
  lop_cmp ho hx hy (fun w=>by simp [binOp,Op.intCmp]) hd
theorem lop_eql (ho:o.op=.binOp .eql t x y t') (hx:σ.look x=.p (.v (.int k m))) (hy:σ.look y=.p (.v (.int k n))) (hd:dOk C o.dst=true):LOp C o σ ⟨.p (.v (.bool (decide (m=n)))),[]⟩ (fun _=>false):=
  lop_cmp ho hx hy (fun w=>by simp [binOp,Op.intCmp];rfl) hd
theorem lop_neq (ho:o.op=.binOp .neq t x y t') (hx:σ.look x=.p (.v (.int k m))) (hy:σ.look y=.p (.v (.int k n))) (hd:dOk C o.dst=true):LOp C o σ ⟨.p (.v (.bool (decide (m≠n)))),[]⟩ (fun _=>false):=
  lop_cmp ho hx hy (fun w=>by simp [binOp,Op.intCmp,bne,BEq.beq]) hd
end int
section bool
variable {t t':TypeId} {x y:Operand} {p q:Bool}
theorem eqg_bool (op:BinOp) (w:World):(eqGuard op t x y (.bool p) (.bool q)).run C.P w=.ok () w:=by
  unfold eqGuard;cases op<;>simp [pure]
theorem run_eqBool' {P:Program} {t:TypeId} (hd:P.underlying t=some .bool) (d:Nat) (p q:Bool) (w:World):(Op.equalIn (d+1) t (.bool p) (.bool q)).run P w=.ok (p == q) w:=by
  simp [Op.equalIn,run_underlying hd]
theorem run_eqBool {P:Program} {t:TypeId} {d:TypeDesc} (hd:P.underlying t=some d) (hk:TK.of d=.bool) (p q:Bool) (w:World):(Op.equal t (.bool p) (.bool q)).run P w=.ok (p == q) w:=by
  have:d=.bool:=by cases d<;>simp [TK.of] at hk;rfl
  subst this
  exact run_eqBool' hd 9999 p q w
theorem lop_eqlb {sz by_:Nat} [hT:TI C.P t .bool sz by_] (ho:o.op=.binOp .eql t x y t') (hx:σ.look x=.p (.v (.bool p))) (hy:σ.look y=.p (.v (.bool q))) (hd:dOk C o.dst=true):LOp C o σ ⟨.p (.v (.bool (p == q))),[]⟩ (fun _=>false):=
  lop_bin ho hx hy (fun w=>by
    obtain ⟨d,hd,hk⟩:=hT.undd
    simp [eqg_bool,binOp,run_eqBool hd hk]) rfl hd
theorem lop_not {x:Operand} {p:Bool} (ho:o.op=.unOp .not t x) (hx:σ.look x=.p (.v (.bool p))) (hd:dOk C o.dst=true):LOp C o σ ⟨.p (.v (.bool (!p))),[]⟩ (fun _=>false):=
  lop_val hd fun τ a w G hl hm h=>by
    have e1:=val_of h ((hl x (by simp [ho,Op.operands])).trans hx)
    exact ⟨.bool (!p),by simp [execOp,ho,e1,Op.unary],rfl,rfl⟩
end bool
theorem lop_neg {t:TypeId} {x:Operand} {k:IntKind} {n:Int} (ho:o.op=.unOp .neg t x) (hx:σ.look x=.p (.v (.int k n))) (hd:dOk C o.dst=true):LOp C o σ ⟨.p (.v (.int k (k.wrap (0 - n)))),[]⟩ (fun _=>false):=
  lop_val hd fun τ a w G hl hm h=>by
    have e1:=val_of h ((hl x (by simp [ho,Op.operands])).trans hx)
    exact ⟨_,by simp only [execOp,ho,e1,Op.unary,Op.intArith];rfl,rfl,rfl⟩
theorem lop_extract {x:Operand} {ix:Nat} {vs:List SV} {s:SV} (ho:o.op=.extract x ix) (hx:σ.look x=.tup vs) (hs:vs[ix]?=some s) (hd:dOk C o.dst=true):LOp C o σ ⟨.s s,[]⟩ (fun _=>false):=
  lop_val hd fun τ a w G hl hm h=>by
    obtain ⟨arr,h1,h2⟩:=look_of h ((hl x (by simp [ho,Op.operands])).trans hx)
    obtain ⟨v,hv,hh⟩:=h2.get hs
    exact ⟨v,by simp [execOp,ho,h1,Instr.extract,hv],hh⟩
theorem lop_conv {s d:TypeId} {x:Operand} {k k':IntKind} {n:Int} {sz by_:Nat} [hT:TI C.P d (.int k') sz by_] {ks:TK} {sz' by':Nat} [hS:TI C.P s ks sz' by'] (ho:o.op=.convert s d x) (hx:σ.look x=.p (.v (.int k n))) (hd:dOk C o.dst=true) :
    LOp C o σ ⟨.p (.v (.int k' (k'.wrap n))),[]⟩ (fun _=>false):=
  lop_val hd fun τ a w G hl hm h=>by
    have e1:=val_of h ((hl x (by simp [ho,Op.operands])).trans hx)
    obtain ⟨dd,hdd,hk⟩:=hT.undd
    obtain ⟨sd,hsd,hk'⟩:=hS.undd
    have:dd=.int k':=by cases dd<;>simp [TK.of] at hk;rw [hk]
    subst this
    exact ⟨_,by simp [execOp,ho,e1,convert,run_underlying hdd,run_underlying hsd,Conv.intToInt],rfl,rfl⟩
theorem lop_conv' {s d:TypeId} {x:Operand} {k k':IntKind} {n:Int} {sz by_:Nat} [hT:TI C.P d (.int k') sz by_] {ks:TK} {sz' by':Nat} [hS:TI C.P s ks sz' by'] (ho:o.op=.convert s d x) (hx:σ.look x=.p (.v (.int k n))) (hd:dOk C o.dst=true)
    (hw:k'.wrap n=n):LOp C o σ ⟨.p (.v (.int k' n)),[]⟩ (fun _=>false):=by
  have:=lop_conv ho hx hd;rwa [hw] at this
/-! ### Addresses -/
def _root_.Go.Aw.PVal.at_ (row:List PVal):PVal where
  holds X v:=∃ a,v=.pointer (some a)∧a.spot=none∧X.S a.block∧∃ cs ty fr,X.w.heap[a.block]?=some (.cells cs ty fr)∧∀ j p,row[j]?=some p→∃ c,cs[a.off+j]?=some c∧PVal.holds p X c
  mono:=by
    rintro x y v hle ⟨a,h1,h2,h3,cs,ty,fr,h4,h5⟩
    refine ⟨a,h1,h2,(hle _ h3).1,cs,ty,fr,(hle _ h3).2.trans h4,fun j p hp=>?_⟩
    obtain ⟨c,hc,hh⟩:=h5 j p hp
    exact ⟨c,hc,p.mono hle hh⟩
  one:=by rintro x v ⟨a,rfl,_⟩;rfl
theorem add_addr' (a:Addr) (ha:a.spot=none) (n:Nat):a.add n=⟨a.block,a.off+n,none⟩:=by
  obtain ⟨b,o,s⟩:=a;simp at ha;subst ha;exact add_addr b o n
theorem lop_fieldAddr {T:TypeId} {x:Operand} {f:Nat} {fs:List (Nat × TypeId)} {sz by_:Nat} [hT:TI C.P T (.struct fs) sz by_] {off ft:Nat} {kf:TK} {szf bf:Nat} [hf:TI C.P ft kf szf bf]
    {ob g of':Nat} (ho:o.op=.fieldAddr T x f) (hfs:fs[f]?=some (off,ft)) (hz:szf≠0) (hx:σ.look x=.o (.ptr ob g of')) (hd:dOk C o.dst=true):LOp C o σ ⟨.o (.ptr ob g (of'+off)),[]⟩ (fun _=>false):=
  lop_val hd fun τ a w G hl hm h=>by
    obtain ⟨b,c,h1,h2⟩:=look_of h ((hl x (by simp [ho,Op.operands])).trans hx)
    obtain ⟨d,hdd,hk⟩:=hT.undd
    cases d with
    | struct fields=>
      simp [TK.of] at hk
      subst hk
      have hfl:∃ fd,fields[f]?=some fd∧fd.offset=off∧fd.type=ft:=by
        rw [List.getElem?_map] at hfs
        cases hq:fields.toList[f]? with
        | none=>rw [hq] at hfs;cases hfs
        | some fd=>rw [hq] at hfs;simp at hfs;exact ⟨fd,by simpa using hq,hfs.1,hfs.2⟩
      obtain ⟨fd,hq,rfl,rfl⟩:=hfl
      refine ⟨.pointer (some ⟨b,of'+fd.offset,none⟩),?_,b,c,h1,rfl⟩
      simp [execOp,ho,h2,Instr.fieldAt,run_underlying hdd,hq,Instr.sureAddr,fieldPlace,hf.run_sizeOf,hz,add_addr]
    | _=>simp [TK.of] at hk
theorem lop_fieldAddr_p {T:TypeId} {x:Operand} {f:Nat} {fs:List (Nat × TypeId)} {sz by_:Nat} [hT:TI C.P T (.struct fs) sz by_] {off ft:Nat} {kf:TK} {szf bf:Nat} [hf:TI C.P ft kf szf bf]
    {row:List PVal} (ho:o.op=.fieldAddr T x f) (hfs:fs[f]?=some (off,ft)) (hz:szf≠0) (hx:σ.look x=.p (.at_ row)) (hd:dOk C o.dst=true):LOp C o σ ⟨.p (.at_ (row.drop off)),[]⟩ (fun _=>false):=
  lop_val hd fun τ a w G hl hm h=>by
    obtain ⟨ad,h1,h2,h3,cs,ty,fr,h4,h5⟩:=look_of h ((hl x (by simp [ho,Op.operands])).trans hx)
    obtain ⟨d,hdd,hk⟩:=hT.undd
    cases d with
    | struct fields=>
      simp [TK.of] at hk
      subst hk
      have hfl:∃ fd,fields[f]?=some fd∧fd.offset=off∧fd.type=ft:=by
        rw [List.getElem?_map] at hfs
        cases hq:fields.toList[f]? with
        | none=>rw [hq] at hfs;cases hfs
        | some fd=>rw [hq] at hfs;simp at hfs;exact ⟨fd,by simpa using hq,hfs.1,hfs.2⟩
      obtain ⟨fd,hq,rfl,rfl⟩:=hfl
      refine ⟨.pointer (some ⟨ad.block,ad.off+fd.offset,none⟩),?_,_,rfl,rfl,h3,cs,ty,fr,h4,fun j p hp=>?_⟩
      · simp [execOp,ho,h1,Instr.fieldAt,run_underlying hdd,hq,Instr.sureAddr,fieldPlace,hf.run_sizeOf,hz,add_addr' ad h2]
      · have:=h5 (fd.offset+j) p (by simpa using hp)
        simpa [Nat.add_assoc] using this
    | _=>simp [TK.of] at hk
theorem lop_indexAddr_arr {T e:TypeId} {x ix:Operand} {n:Nat} {sz by_:Nat} [hT:TI C.P T (.array n e) sz by_] {ke:TK} {sze be:Nat} [he:TI C.P e ke sze be] {ob g off:Nat} {k:IntKind} {i:Int}
    (ho:o.op=.indexAddr T x ix) (hx:σ.look x=.o (.ptr ob g off)) (hi:σ.look ix=.p (.v (.int k i))) (hb:0≤i∧i < n) (hd:dOk C o.dst=true):LOp C o σ ⟨.o (.ptr ob g (off+i.toNat * sze)),[]⟩ (fun _=>false):=
  lop_val hd fun τ a w G hl hm h=>by
    obtain ⟨b,c,h1,h2⟩:=look_of h ((hl x (by simp [ho,Op.operands])).trans hx)
    have e2:=val_of h ((hl ix (by simp [ho,Op.operands])).trans hi)
    obtain ⟨d,hdd,hk⟩:=hT.undd
    have:d=.array n e:=by cases d<;>simp [TK.of] at hk;rw [hk.1,hk.2]
    subst this
    refine ⟨.pointer (some ⟨b,off+i.toNat * sze,none⟩),?_,b,c,h1,rfl⟩
    simp [execOp,ho,h2,e2,Instr.indexAt,asIntOf,run_underlying hdd,Instr.sureAddr,hb,he.run_sizeOf,add_addr]
theorem lop_indexAddr_sl {T e:TypeId} {x ix:Operand} {sz by_:Nat} [hT:TI C.P T (.slice e) sz by_] {ke:TK} {sze be:Nat} [he:TI C.P e ke sze be] {rows:List (List PVal)} {ex:Bool} {k:IntKind} {i:Int} {row:List PVal}
    (ho:o.op=.indexAddr T x ix) (hx:σ.look x=.p (.sl sze rows ex)) (hi:σ.look ix=.p (.v (.int k i))) (h0:0≤i) (hb:rows[i.toNat]?=some row) (hd:dOk C o.dst=true):LOp C o σ ⟨.p (.at_ row),[]⟩ (fun _=>false):=
  lop_val hd fun τ a w G hl hm h=>by
    obtain ⟨base,cap,h1,h2,h3,h4,h5⟩:=look_of h ((hl x (by simp [ho,Op.operands])).trans hx)
    have e2:=val_of h ((hl ix (by simp [ho,Op.operands])).trans hi)
    have hlt:i.toNat < rows.length:=(List.getElem?_eq_some_iff.1 hb).1
    cases base with
    | none=>simp at h5;rw [h5.1] at hlt;simp at hlt
    | some ad=>
      rcases h5 with h5 | ⟨g1,g2,cs,ty,fr,g3,g4⟩
      · rw [h5] at hlt;simp at hlt
      obtain ⟨d,hdd,hk⟩:=hT.undd
      have:d=.slice e:=by cases d<;>simp [TK.of] at hk;rw [hk]
      subst this
      refine ⟨.pointer (some ⟨ad.block,ad.off+i.toNat * sze,none⟩),?_,_,rfl,rfl,g2,cs,ty,fr,g3,fun j p hp=>(g4 _ _ hb).2 j p hp⟩
      have hb':0≤i∧i < (rows.length:Int):=⟨h0,by omega⟩
      simp [execOp,ho,h1,e2,Instr.indexAt,asIntOf,run_underlying hdd,hb',he.run_sizeOf,add_addr' ad g1]
/-! ### Reading -/
theorem lop_load_box {T:TypeId} {x:Operand} {k:TK} {sz by_:Nat} [hT:TI C.P T k sz by_] {ob g off n:Nat} {ty:TypeId} {cs:List AC} (ho:o.op=.load T x) (hx:σ.look x=.o (.ptr ob g off)) (hm:σ.mem ob=(n,some (.box ty cs))) (hn:n=g+1)
    (hk:k.agg=true) (hl:off+sz≤cs.length) (hd:dOk C o.dst=true):LOp C o σ ⟨.a ((cs.drop off).take sz),[]⟩ (fun y=>y == ob):=
  lop_val hd fun τ a w G hl' hm' h=>by
    subst hn
    obtain ⟨b,c,h1,h2⟩:=look_of h ((hl' x (by simp [ho,Op.operands])).trans hx)
    obtain ⟨g',m',hg,hmm,b',arr,h4,h5,h6,h7⟩:=h.mem ob _ _ (by rw [hm' ob (by simp)];exact hm)
    obtain rfl:g=g':=by omega
    rw [h1] at hmm;obtain rfl:=Option.some.inj hmm
    simp only [Option.some.injEq] at h4;subst h4
    have hr:=run_loadVar hT h6 (off:=off) (by rw [← h7.1];exact hl) (by simp [hk])
    simp only [hk,if_true] at hr
    exact ⟨_,by simp [execOp,ho,h2,Instr.loadAt,Instr.sureAddr,hr],_,rfl,(h7.drop off).take sz⟩
theorem lop_load_all {T:TypeId} {x:Operand} {k:TK} {sz by_:Nat} [hT:TI C.P T k sz by_] {ob g n:Nat} {ty:TypeId} {cs:List AC} (ho:o.op=.load T x) (hx:σ.look x=.o (.ptr ob g 0)) (hm:σ.mem ob=(n,some (.box ty cs))) (hn:n=g+1)
    (hk:k.agg=true) (hl:cs.length=sz) (hd:dOk C o.dst=true):LOp C o σ ⟨.a cs,[]⟩ (fun y=>y == ob):=by
  have:=lop_load_box (o:=o) ho hx hm hn hk (by omega) hd
  simpa [List.take_of_length_le (Nat.le_of_eq hl)] using this
theorem lop_load_one {T:TypeId} {x:Operand} {k:TK} {sz by_:Nat} [hT:TI C.P T k sz by_] {ob g off n:Nat} {ty:TypeId} {cs:List AC} {c:AC} (ho:o.op=.load T x) (hx:σ.look x=.o (.ptr ob g off)) (hm:σ.mem ob=(n,some (.box ty cs))) (hn:n=g+1)
    (hk:k.agg=false) (hs:sz=1) (hc:cs[off]?=some c) (hd:dOk C o.dst=true):LOp C o σ ⟨.o c,[]⟩ (fun y=>y == ob):=
  lop_val hd fun τ a w G hl' hm' h=>by
    subst hn
    obtain ⟨b,c',h1,h2⟩:=look_of h ((hl' x (by simp [ho,Op.operands])).trans hx)
    obtain ⟨g',m',hg,hmm,b',arr,h4,h5,h6,h7⟩:=h.mem ob _ _ (by rw [hm' ob (by simp)];exact hm)
    obtain rfl:g=g':=by omega
    rw [h1] at hmm;obtain rfl:=Option.some.inj hmm
    simp only [Option.some.injEq] at h4;subst h4
    obtain ⟨v,hv,hh⟩:=h7.get hc
    have hlt:off < arr.length:=(List.getElem?_eq_some_iff.1 hv).1
    have hr:=run_loadVar hT h6 (off:=off) (by omega) (fun _=>hs)
    simp only [hk,Bool.false_eq_true,if_false] at hr
    have e:arr.getD off undef=v:=by simp [List.getD_eq_getElem?_getD,hv]
    rw [e] at hr
    exact ⟨v,by simp [execOp,ho,h2,Instr.loadAt,Instr.sureAddr,hr],hh⟩
theorem stable_load {P:Program} {T:TypeId} {k:TK} {sz by_:Nat} (hT:TI P T k sz by_) {w:World} {a:Addr} (ha:a.spot=none) {cs:Array Value} {ty:TypeId} {fr:Nat × Nat} (hg:w.heap[a.block]?=some (.cells cs ty fr))
    (hl:a.off+sz≤cs.size) (h1:k.agg=false→sz=1) :
    (loadVar T a).run P w=.ok (if k.agg then .agg ((cs.toList.drop a.off).take sz).toArray else cs.toList.getD a.off undef) w:=by
  obtain ⟨b,off,s⟩:=a
  simp at ha;subst ha
  exact run_loadVar (arr:=cs.toList) hT (by simpa using hg) (by simpa using hl) h1
theorem lop_load_at {T:TypeId} {x:Operand} {k:TK} {sz by_:Nat} [hT:TI C.P T k sz by_] {row:List PVal} (ho:o.op=.load T x) (hx:σ.look x=.p (.at_ row)) (hk:k.agg=true) (hz:0 < sz) (hl:sz≤row.length) (hd:dOk C o.dst=true) :
    LOp C o σ ⟨.a ((row.take sz).map .p),[]⟩ (fun _=>false):=
  lop_val hd fun τ a w G hl' hm' h=>by
    obtain ⟨ad,h1,h2,h3,cs,ty,fr,h4,h5⟩:=look_of h ((hl' x (by simp [ho,Op.operands])).trans hx)
    have hsz:ad.off+sz≤cs.size:=by
      have hr:row[sz - 1]?=some (row[sz - 1]'(by omega)):=List.getElem?_eq_getElem _
      obtain ⟨c,hc,_⟩:=h5 _ _ hr
      have:=(Array.getElem?_eq_some_iff.1 hc).1
      omega
    have hr:=stable_load hT h2 h4 hsz (by simp [hk])
    simp only [hk,if_true] at hr
    refine ⟨.agg ((cs.toList.drop ad.off).take sz).toArray,by simp only [execOp,ho,h1,Instr.loadAt,Instr.sureAddr,Sem.run_bind,Sem.run_pure,Result.andThen_ok,hr],(cs.toList.drop ad.off).take sz,rfl,?_⟩
    refine ⟨by simp;omega,fun i c v hc hv=>?_⟩
    rw [List.getElem?_map] at hc
    rw [List.getElem?_take] at hc hv
    split at hc
    · rename_i hi
      cases hp:row[i]? with
      | none=>simp [hp] at hc
      | some p=>
        simp [hp] at hc;subst hc
        obtain ⟨c',hc',hh⟩:=h5 i p hp
        simp [hi] at hv
        have:c'=v:=by
          rw [hv] at hc';exact (Option.some.inj hc').symm
        subst this;exact hh
    · simp at hc
theorem lop_load_at1 {T:TypeId} {x:Operand} {k:TK} {sz by_:Nat} [hT:TI C.P T k sz by_] {row:List PVal} {p:PVal} (ho:o.op=.load T x) (hx:σ.look x=.p (.at_ row)) (hk:k.agg=false) (hs:sz=1) (hp:row[0]?=some p) (hd:dOk C o.dst=true) :
    LOp C o σ ⟨.p p,[]⟩ (fun _=>false):=
  lop_val hd fun τ a w G hl' hm' h=>by
    obtain ⟨ad,h1,h2,h3,cs,ty,fr,h4,h5⟩:=look_of h ((hl' x (by simp [ho,Op.operands])).trans hx)
    obtain ⟨c,hc,hh⟩:=h5 0 p hp
    have hlt:=(Array.getElem?_eq_some_iff.1 hc).1
    have hr:=stable_load hT h2 h4 (by rw [hs];simp at hlt;omega) (fun _=>hs)
    simp only [hk,Bool.false_eq_true,if_false] at hr
    have e:cs.toList.getD ad.off undef=c:=by
      simp only [Nat.add_zero] at hc
      simp [List.getD_eq_getElem?_getD,hc]
    rw [e] at hr
    exact ⟨c,by simp only [execOp,ho,h1,Instr.loadAt,Instr.sureAddr,Sem.run_bind,Sem.run_pure,Result.andThen_ok,hr],hh⟩
theorem run_part {P:Program} {T:TypeId} {k:TK} {sz by_:Nat} (hT:TI P T k sz by_) (arr:List Value) (off:Nat) (w:World) (hl:off+sz≤arr.length) (h1:k.agg=false→sz=1) :
    (part T arr.toArray off).run P w=.ok (if k.agg then .agg ((arr.drop off).take sz).toArray else arr.getD off undef) w:=by
  unfold part
  rw [Sem.run_bind,hT.run_isAgg w]
  simp only [Result.andThen_ok]
  cases hk:k.agg with
  | true=>
    simp only [if_true,Sem.run_bind,hT.run_sizeOf,Result.andThen_ok,Sem.run_pure,Bool.true_eq_false,if_false]
    congr 2
    rw [List.extract_toArray,List.extract_eq_take_drop,Nat.add_sub_cancel_left]
  | false=>
    have:=h1 hk
    have hlt:off < arr.length:=by omega
    simp [hlt]
theorem lop_index_arr {T e:TypeId} {x ix:Operand} {n:Nat} {sz by_:Nat} [hT:TI C.P T (.array n e) sz by_] {ke:TK} {sze be:Nat} [he:TI C.P e ke sze be] {cs:List AC} {k:IntKind} {i:Int}
    (ho:o.op=.index T x ix) (hx:σ.look x=.a cs) (hi:σ.look ix=.p (.v (.int k i))) (hb:0≤i∧i < n) (hk:ke.agg=true) (hl:i.toNat * sze+sze≤cs.length) (hd:dOk C o.dst=true) :
    LOp C o σ ⟨.a ((cs.drop (i.toNat * sze)).take sze),[]⟩ (fun _=>false):=
  lop_val hd fun τ a w G hl' hm' h=>by
    obtain ⟨arr,h1,h2⟩:=look_of h ((hl' x (by simp [ho,Op.operands])).trans hx)
    have e2:=val_of h ((hl' ix (by simp [ho,Op.operands])).trans hi)
    obtain ⟨d,hdd,hkk⟩:=hT.undd
    have:d=.array n e:=by cases d<;>simp [TK.of] at hkk;rw [hkk.1,hkk.2]
    subst this
    have hr:=run_part he arr (i.toNat * sze) w (by rw [← h2.1];exact hl) (by simp [hk])
    simp only [hk,if_true] at hr
    exact ⟨_,by simp [execOp,ho,h1,e2,Instr.index,asIntOf,run_underlying hdd,hb,he.run_sizeOf,hr],_,rfl,(h2.drop _).take _⟩
theorem lop_index_arr1 {T e:TypeId} {x ix:Operand} {n:Nat} {sz by_:Nat} [hT:TI C.P T (.array n e) sz by_] {ke:TK} {sze be:Nat} [he:TI C.P e ke sze be] {cs:List AC} {c:AC} {k:IntKind} {i:Int}
    (ho:o.op=.index T x ix) (hx:σ.look x=.a cs) (hi:σ.look ix=.p (.v (.int k i))) (hb:0≤i∧i < n) (hk:ke.agg=false) (hs:sze=1) (hc:cs[i.toNat]?=some c) (hd:dOk C o.dst=true) :
    LOp C o σ ⟨.o c,[]⟩ (fun _=>false):=
  lop_val hd fun τ a w G hl' hm' h=>by
    obtain ⟨arr,h1,h2⟩:=look_of h ((hl' x (by simp [ho,Op.operands])).trans hx)
    have e2:=val_of h ((hl' ix (by simp [ho,Op.operands])).trans hi)
    obtain ⟨d,hdd,hkk⟩:=hT.undd
    have:d=.array n e:=by cases d<;>simp [TK.of] at hkk;rw [hkk.1,hkk.2]
    subst this
    obtain ⟨v,hv,hh⟩:=h2.get hc
    have hlt:=(List.getElem?_eq_some_iff.1 hv).1
    have hr:=run_part he arr (i.toNat * sze) w (by rw [hs];omega) (fun _=>hs)
    simp only [hk,Bool.false_eq_true,if_false] at hr
    have e:arr.getD (i.toNat * sze) undef=v:=by rw [hs];simp [List.getD_eq_getElem?_getD,hv]
    rw [e] at hr
    exact ⟨v,by simp [execOp,ho,h1,e2,Instr.index,asIntOf,run_underlying hdd,hb,he.run_sizeOf,hr],hh⟩
/-! ### Lengths, and slices of slices -/
theorem lop_len_sl {T e:TypeId} {x:Operand} {sz by_:Nat} [hT:TI C.P T (.slice e) sz by_] {es:Nat} {rows:List (List PVal)} {ex:Bool} (ho:o.op=.call ⟨.builtin .len,#[x],#[T]⟩) (hx:σ.look x=.p (.sl es rows ex)) (hd:dOk C o.dst=true) :
    LOp C o σ ⟨.p (.v (.int .i64 rows.length)),[]⟩ (fun _=>false):=
  lop_val hd fun τ a w G hl' hm' h=>by
    obtain ⟨base,cap,h1,h2⟩:=look_of h ((hl' x (by simp [ho,Op.operands,Call.operands])).trans hx)
    obtain ⟨d,hdd,hkk⟩:=hT.undd
    have:d=.slice e:=by cases d<;>simp [TK.of] at hkk;rw [hkk]
    subst this
    exact ⟨.int .i64 rows.length,by simp [execOp,ho,resolve,invoke,builtin,Builtin.len_,h1,run_underlying hdd,goInt],rfl,rfl⟩
theorem lop_len_nil {T e:TypeId} {x:Operand} {sz by_:Nat} [hT:TI C.P T (.slice e) sz by_] {n c:Nat} {b:Option Addr} (ho:o.op=.call ⟨.builtin .len,#[x],#[T]⟩) (hx:σ.look x=.p (.v (.slice b n c))) (hd:dOk C o.dst=true) :
    LOp C o σ ⟨.p (.v (.int .i64 n)),[]⟩ (fun _=>false):=
  lop_val hd fun τ a w G hl' hm' h=>by
    have h1:=val_of h ((hl' x (by simp [ho,Op.operands,Call.operands])).trans hx)
    obtain ⟨d,hdd,hkk⟩:=hT.undd
    have:d=.slice e:=by cases d<;>simp [TK.of] at hkk;rw [hkk]
    subst this
    exact ⟨.int .i64 n,by simp [execOp,ho,resolve,invoke,builtin,Builtin.len_,h1,run_underlying hdd,goInt],rfl,rfl⟩
theorem lop_len_osl {T e:TypeId} {x:Operand} {sz by_:Nat} [hT:TI C.P T (.slice e) sz by_] {ob g es lo len:Nat} (ho:o.op=.call ⟨.builtin .len,#[x],#[T]⟩) (hx:σ.look x=.o (.osl ob g es lo len)) (hd:dOk C o.dst=true) :
    LOp C o σ ⟨.p (.v (.int .i64 len)),[]⟩ (fun _=>false):=
  lop_val hd fun τ a w G hl' hm' h=>by
    obtain ⟨m,c,h0,h00,h1⟩:=look_of h ((hl' x (by simp [ho,Op.operands,Call.operands])).trans hx)
    obtain ⟨d,hdd,hkk⟩:=hT.undd
    have:d=.slice e:=by cases d<;>simp [TK.of] at hkk;rw [hkk]
    subst this
    exact ⟨.int .i64 len,by simp [execOp,ho,resolve,invoke,builtin,Builtin.len_,h1,run_underlying hdd,goInt],rfl,rfl⟩
theorem lop_len_asl {T e:TypeId} {x:Operand} {sz by_:Nat} [hT:TI C.P T (.slice e) sz by_] {ob g off len cap:Nat} (ho:o.op=.call ⟨.builtin .len,#[x],#[T]⟩) (hx:σ.look x=.o (.asl ob g off len cap)) (hd:dOk C o.dst=true) :
    LOp C o σ ⟨.p (.v (.int .i64 len)),[]⟩ (fun _=>false):=
  lop_val hd fun τ a w G hl' hm' h=>by
    obtain ⟨m,c,h0,h1⟩:=look_of h ((hl' x (by simp [ho,Op.operands,Call.operands])).trans hx)
    obtain ⟨d,hdd,hkk⟩:=hT.undd
    have:d=.slice e:=by cases d<;>simp [TK.of] at hkk;rw [hkk]
    subst this
    exact ⟨.int .i64 len,by simp [execOp,ho,resolve,invoke,builtin,Builtin.len_,h1,run_underlying hdd,goInt],rfl,rfl⟩
theorem lop_len_str {T:TypeId} {x:Operand} {sz by_:Nat} [hT:TI C.P T .string sz by_] {s:ByteArray} (ho:o.op=.call ⟨.builtin .len,#[x],#[T]⟩) (hx:σ.look x=.p (.v (.string s))) (hd:dOk C o.dst=true) :
    LOp C o σ ⟨.p (.v (.int .i64 s.size)),[]⟩ (fun _=>false):=
  lop_val hd fun τ a w G hl' hm' h=>by
    have h1:=val_of h ((hl' x (by simp [ho,Op.operands,Call.operands])).trans hx)
    obtain ⟨d,hdd,hkk⟩:=hT.undd
    have:d=.string:=by cases d<;>simp [TK.of] at hkk;rfl
    subst this
    exact ⟨.int .i64 s.size,by simp [execOp,ho,resolve,invoke,builtin,Builtin.len_,h1,run_underlying hdd,goInt],rfl,rfl⟩
end ops
end Go.Aw
/- THE ABSTRACT WALK, part 5: operations that make and write memory. -/
namespace Go.Aw
open Go Go.RowKit
set_option linter.unusedVariables false
set_option linter.unusedSimpArgs false
section ops
variable {C:Ctx} {o:Oper} {σ:St}
theorem lop_gen {ob n:Nat} {mo0:Option MO} {mo':MO} {av:AV} {ro:Nat→Bool} (hro:ro ob=true) (hd:dOk C o.dst=true) (hm:σ.mem ob=(n,mo0))
    (h:∀ τ a w G,(∀ x,x∈o.op.operands→τ.look x=σ.look x)→(∀ x,ro x=true→τ.mem x=σ.mem x)→RelG C τ a w G→
      ∃ v w' m fp',(execOp a.eval o).run C.P w=.ok (.value v) w'∧w'.os=w.os∧TL w' w∧w'.output=w.output∧w.heap.size≤w'.heap.size∧
        (∀ k,k < w.heap.size→k ∉ G.φ ob→w'.heap[k]?=w.heap[k]?)∧(∀ b,b∈fp'→(b∈G.φ ob∨w.heap.size≤b)∧b < w'.heap.size)∧
        mo'.holds (fun x=>if x=ob then G.μ ob++[m] else G.μ x) ⟨w',G.S⟩ m fp'∧av.holds (fun x=>if x=ob then G.μ ob++[m] else G.μ x) ⟨w',G.S⟩ v) :
    LOp C o σ ⟨av,[(ob,(n+1,some mo'))]⟩ ro:=by
  refine ⟨fun x m h=>by simp at h;obtain ⟨rfl,_⟩:=h;exact hro,fun τ hl hm' a w ⟨G,hG⟩ K Q hK=>?_⟩
  obtain ⟨v,w',m,fp',hv,h1,h2,h3,h4,h5,h6,h7,h8⟩:=h τ a w G hl hm' hG
  have hlen:(G.μ ob).length=n:=by have:=hG.gens ob;rw [hm' ob hro,hm] at this;exact this
  refine wpIn_exec (notDefer hv (by first|(intro d h;cases h;done)|(rcases h0 with rfl | ⟨rfl,_⟩<;>intro d h<;>cases h))) ?_
  rw [hv]
  have hu:=hG.upd (o:=ob) (n':=n+1) (mo':=some mo') (μo:=G.μ ob++[m]) (fp':=fp') (fun g x hx=>by
    rw [List.getElem?_append_left (List.getElem?_eq_some_iff.1 hx).1];exact hx) (by simp [hlen]) h1 h2 h3 h4 h5 h6 (fun mo hmo=>by
      obtain rfl:=Option.some.inj hmo
      exact ⟨n,m,rfl,by simp [hlen],h7⟩)
  exact hK _ _ ⟨_,hu.setv hd h8⟩
theorem lop_same {ob n:Nat} {mo0 mo':MO} {av:AV} {ro:Nat→Bool} (hro:ro ob=true) (hd:dOk C o.dst=true) (hm:σ.mem ob=(n,some mo0))
    (h:∀ τ a w G g m,(∀ x,x∈o.op.operands→τ.look x=σ.look x)→(∀ x,ro x=true→τ.mem x=σ.mem x)→RelG C τ a w G→n=g+1→(G.μ ob)[g]?=some m→mo0.holds G.μ ⟨w,G.S⟩ m (G.φ ob)→
      ∃ nx v w',(execOp a.eval o).run C.P w=.ok nx w'∧(nx=.value v∨nx=.skip∧v=undef)∧w'.os=w.os∧TL w' w∧w'.output=w.output∧w.heap.size=w'.heap.size∧
        (∀ k,k < w.heap.size→k ∉ G.φ ob→w'.heap[k]?=w.heap[k]?)∧mo'.holds G.μ ⟨w',G.S⟩ m (G.φ ob)∧av.holds G.μ ⟨w',G.S⟩ v) :
    LOp C o σ ⟨av,[(ob,(n,some mo'))]⟩ ro:=by
  refine ⟨fun x m h=>by simp at h;obtain ⟨rfl,_⟩:=h;exact hro,fun τ hl hm' a w ⟨G,hG⟩ K Q hK=>?_⟩
  have hmo:τ.mem ob=(n,some mo0):=by rw [hm' ob hro];exact hm
  obtain ⟨g,m,hn,hmm,hh⟩:=hG.mem ob n mo0 hmo
  obtain ⟨nx,v,w',hv,h0,h1,h2,h3,h4,h5,h7,h8⟩:=h τ a w G g m hl hm' hG hn hmm hh
  have hlen:(G.μ ob).length=n:=by have:=hG.gens ob;rw [hmo] at this;exact this
  have e:(fun x=>if x=ob then G.μ ob else G.μ x)=G.μ:=by funext x;by_cases hx:x=ob<;>simp [hx]
  have hu:=hG.upd (o:=ob) (n':=n) (mo':=some mo') (μo:=G.μ ob) (fp':=G.φ ob) (w':=w') (fun g x hx=>hx) hlen h1 h2 h3 (Nat.le_of_eq h4) h5 (fun b hb=>⟨.inl hb,by have:=(hG.own ob b hb).2;omega⟩) (fun mo hmo=>by
      obtain rfl:=Option.some.inj hmo
      exact ⟨g,m,hn,hmm,by rw [e];exact h7⟩)
  rw [e] at hu
  refine wpIn_exec (notDefer hv (by first|(intro d h;cases h;done)|(rcases h0 with rfl | ⟨rfl,_⟩<;>intro d h<;>cases h))) ?_
  rw [hv]
  rcases h0 with rfl | ⟨rfl,rfl⟩
  · exact hK _ _ ⟨_,hu.setv hd h8⟩
  · exact hK _ _ ⟨_,hu.setv hd h8⟩
theorem mu_new {μ:Mu} {ob n:Nat} {m:Option Nat × Nat} (hlen:(μ ob).length=n):((fun x=>if x=ob then μ ob++[m] else μ x:Mu) ob)[n]?=some m:=by simp [← hlen]
theorem mu_le {μ:Mu} {ob:Nat} {m:Option Nat × Nat}:μ.le (fun x=>if x=ob then μ ob++[m] else μ x):=fun x g y hy=>by
  by_cases hx:x=ob
  · subst hx
    simp only [if_true]
    rw [List.getElem?_append_left (List.getElem?_eq_some_iff.1 hy).1];exact hy
  · simpa [hx] using hy
theorem wle_alloc {w:World} {S:Nat→Prop} (hS:∀ b,S b→b < w.heap.size) (ob:Obj):Wd.le ⟨w,S⟩ ⟨w.alloc ob,S⟩:=fun b hb=>⟨hb,Below.heap_alloc w ob b (hS b hb)⟩
theorem lop_box {T:TypeId} {x:Operand} {d n:Nat} {mo0:Option MO} {s:SV} (ho:o.op=.box T x) (hdst:o.dst=some d) (hx:σ.look x=.s s) (hm:σ.mem d=(n,mo0)) (hd:dOk C o.dst=true) :
    LOp C o σ ⟨.o (.ptr d n 0),[(d,(n+1,some (.box T s.cells)))]⟩ (fun y=>y == d):=
  lop_gen (by simp) hd hm fun τ a w G hl hm' h=>by
    have h1:s.holds G.μ ⟨w,G.S⟩ (a.eval x):=look_of h ((hl x (by simp [ho,Op.operands])).trans hx)
    have hlen:(G.μ d).length=n:=by have:=h.gens d;rw [hm' d (by simp),hm] at this;exact this
    refine ⟨.pointer (some ⟨w.heap.size,0,none⟩),w.alloc (.cells (a.eval x).cells T),(some w.heap.size,0),[w.heap.size],?_,rfl,.same,rfl,by simp,fun k hk _=>Below.heap_alloc w _ k hk,?_,?_,?_⟩
    · simp only [execOp,ho,Instr.box,newVar,newRow,Sem.run_bind,run_newObj_alloc,Sem.run_pure,Result.andThen_ok]
    · simp
    · refine ⟨w.heap.size,(a.eval x).cells.toList,rfl,rfl,?_,?_⟩
      · simpa using heap_alloc_new w _
      · exact h1.cells.mono fun _ _ k=>k.mono mu_le (wle_alloc (fun b hb=>(h.sbd b hb).1) _)
    · exact ⟨w.heap.size,0,mu_new hlen,rfl⟩
theorem lop_alloc {T:TypeId} {d n:Nat} {mo0:Option MO} {z:List Value} [hz:TZ C.P T z] (ho:o.op=.alloc T) (hdst:o.dst=some d) (hm:σ.mem d=(n,mo0)) (h1:z.all (·.oneCell')=true) (hd:dOk C o.dst=true) :
    LOp C o σ ⟨.o (.ptr d n 0),[(d,(n+1,some (.box T (z.map fun v=>.p (.v v)))))]⟩ (fun y=>y == d):=
  lop_gen (by simp) hd hm fun τ a w G hl hm' h=>by
    have hlen:(G.μ d).length=n:=by have:=h.gens d;rw [hm' d (by simp),hm] at this;exact this
    have hzz:=hz.zero
    cases hi:C.P.info? T with
    | none=>simp [hi] at hzz
    | some i=>
      simp only [hi,Option.bind_some] at hzz
      cases hz0:i.zero with
      | none=>simp [hz0] at hzz
      | some zv=>
        simp only [hz0,Option.map_some,Option.some.injEq] at hzz
        refine ⟨.pointer (some ⟨w.heap.size,0,none⟩),w.alloc (.cells zv.cells T),(some w.heap.size,0),[w.heap.size],?_,rfl,.same,rfl,by simp,fun k hk _=>Below.heap_alloc w _ k hk,?_,?_,?_⟩
        · simp [execOp,ho,Instr.alloc,zeroValue,typeInfo,hi,hz0,newVar,newRow]
        · simp
        · refine ⟨w.heap.size,z,rfl,rfl,?_,?_⟩
          · rw [← hzz];simpa using heap_alloc_new w _
          · refine ⟨by simp,fun j c v hc hv=>?_⟩
            rw [List.getElem?_map,hv] at hc
            simp at hc;subst hc
            exact ⟨rfl,by have:=List.all_eq_true.1 h1 v (List.mem_of_getElem? hv);simpa using this⟩
        · exact ⟨w.heap.size,0,mu_new hlen,rfl⟩
theorem run_storeVar {P:Program} {T:TypeId} {k:TK} {sz by_:Nat} (hT:TI P T k sz by_) {w:World} {b off:Nat} {arr:List Value} {ty:TypeId} (h:w.heap[b]?=some (.cells arr.toArray ty (0,0))) {v:Value}
    (hl:off+sz≤arr.length) (hs:v.cells.size=sz) (h1:∀ u∈v.cells.toList,u.oneCell'=true) :
    (storeVar T ⟨b,off,none⟩ v).run P w=.ok () (w.setRow b (arr.take off++v.cells.toList++arr.drop (off+sz)).toArray):=by
  have hst:=run_storeCells_at P b off ty v.cells.toList 0 arr.toArray w h (by simp;omega) h1
  simp only [Nat.add_zero,Array.length_toList,hs] at hst
  simp [storeVar,hT.run_sizeOf,hs,hst]
theorem setRow_frame {w:World} {b:Nat} {cs:Array Value}:(w.setRow b cs).os=w.os∧TL (w.setRow b cs) w∧(w.setRow b cs).output=w.output∧w.heap.size=(w.setRow b cs).heap.size:=
  ⟨rfl,.same,rfl,by simp⟩
theorem lop_store {T:TypeId} {x y:Operand} {k:TK} {sz by_:Nat} [hT:TI C.P T k sz by_] {ob g off n:Nat} {ty:TypeId} {cs:List AC} {s:SV} (ho:o.op=.store T x y) (hdst:o.dst=none) (hx:σ.look x=.o (.ptr ob g off)) (hy:σ.look y=.s s)
    (hm:σ.mem ob=(n,some (.box ty cs))) (hn:n=g+1) (hl:off+sz≤cs.length) (hs:s.cells.length=sz) :
    LOp C o σ ⟨.un,[(ob,(n,some (.box ty (cs.take off++s.cells++cs.drop (off+sz)))))]⟩ (fun z=>z == ob):=
  lop_same (by simp) (by rw [hdst];rfl) hm fun τ a w G g' m hl' hm' h hn' hmm hh=>by
    obtain rfl:g=g':=by omega
    obtain ⟨b,c,h1,h2⟩:=look_of h ((hl' x (by simp [ho,Op.operands])).trans hx)
    have h3:s.holds G.μ ⟨w,G.S⟩ (a.eval y):=look_of h ((hl' y (by simp [ho,Op.operands])).trans hy)
    obtain ⟨b',arr,h4,h5,h6,h7⟩:=hh
    rw [h1] at hmm;obtain rfl:=Option.some.inj hmm
    simp only [Option.some.injEq] at h4;subst h4
    have h8:=h3.cells
    have hvs:(a.eval y).cells.size=sz:=by have:=h8.1;rw [hs] at this;simpa using this.symm
    have h9:∀ u∈(a.eval y).cells.toList,u.oneCell'=true:=fun u hu=>by
      obtain ⟨i,hi,hu'⟩:=List.mem_iff_getElem.1 hu
      have hi':i < s.cells.length:=by rw [h8.1];exact hi
      exact (h8.2 i s.cells[i] u (by simp [hi']) (by rw [← hu'];exact List.getElem?_eq_getElem _)).one
    have hr:=run_storeVar hT h6 (off:=off) (v:=a.eval y) (by rw [← h7.1];exact hl) hvs h9
    have hle:Wd.le ⟨w,G.S⟩ ⟨w.setRow b (arr.take off++(a.eval y).cells.toList++arr.drop (off+sz)).toArray,G.S⟩:=fun k hk=>
      ⟨hk,setRow_other w b k _ fun e=>h.stab ob b (by rw [h5];simp) (e ▸ hk)⟩
    refine ⟨.skip,undef,w.setRow b (arr.take off++(a.eval y).cells.toList++arr.drop (off+sz)).toArray,?_,.inr ⟨rfl,rfl⟩,setRow_frame.1,setRow_frame.2.1,setRow_frame.2.2.1,setRow_frame.2.2.2,
      fun k _ hk=>setRow_other w b k _ fun e=>hk (by rw [h5,e];simp),⟨b,_,rfl,h5,setRow_heap w b _ _ ty _ h6,?_⟩,trivial⟩
    · simp only [execOp,ho,h2,Instr.storeAt,Instr.sureAddr,Sem.run_bind,Sem.run_pure,Result.andThen_ok,hr]
    · exact (((h7.take off).append h8).append (h7.drop (off+sz))).mono fun _ _ k=>k.mono (Mu.le.refl _) hle
theorem lop_store_one {T:TypeId} {x y:Operand} {k:TK} {sz by_:Nat} [hT:TI C.P T k sz by_] {ob g off n:Nat} {ty:TypeId} {cs:List AC} {c:AC} (ho:o.op=.store T x y) (hdst:o.dst=none) (hx:σ.look x=.o (.ptr ob g off)) (hy:σ.look y=.o c)
    (hm:σ.mem ob=(n,some (.box ty cs))) (hn:n=g+1) (hl:off < cs.length) (hs:sz=1) :
    LOp C o σ ⟨.un,[(ob,(n,some (.box ty (cs.set off c))))]⟩ (fun z=>z == ob):=by
  have:=lop_store (o:=o) (hT:=hT) (s:=.one c) ho hdst hx hy hm hn (by omega) (by simp [SV.cells,hs])
  simp only [SV.cells,hs] at this
  simpa [List.set_eq_take_append_cons_drop,hl] using this
theorem lop_store_all {T:TypeId} {x y:Operand} {k:TK} {sz by_:Nat} [hT:TI C.P T k sz by_] {ob g n:Nat} {ty:TypeId} {cs ds:List AC} (ho:o.op=.store T x y) (hdst:o.dst=none) (hx:σ.look x=.o (.ptr ob g 0)) (hy:σ.look y=.a ds)
    (hm:σ.mem ob=(n,some (.box ty cs))) (hn:n=g+1) (hl:cs.length=sz) (hs:ds.length=sz) :
    LOp C o σ ⟨.un,[(ob,(n,some (.box ty ds)))]⟩ (fun z=>z == ob):=by
  have:=lop_store (o:=o) (hT:=hT) (s:=.agg ds) ho hdst hx hy hm hn (by omega) (by simp [SV.cells,hs])
  simpa [SV.cells,List.drop_of_length_le (Nat.le_of_eq hl)] using this
/-! ### Structs, arrays and slices written out -/
def bfill (place:Nat→Option (Nat × Nat)) (cells:List AC):List (Nat × List AC)→Option (List AC)
  | []=>some cells
  | (i,v)::rest=>match place i with
    | none=>none
    | some (off,size)=>if v.length=size∧off+size≤cells.length then bfill place (cells.take off++v++cells.drop (off+size)) rest else none
theorem foldl_set (vs:List Value):∀ (off:Nat) (arr:Array Value),off+vs.length≤arr.size→
    ((vs.zipIdx 0).foldl (fun cs (p:Value × Nat)=>cs.setIfInBounds (off+p.2) p.1) arr).toList=arr.toList.take off++vs++arr.toList.drop (off+vs.length):=by
  suffices h:∀ (vs:List Value) (k off:Nat) (arr:Array Value),off+k+vs.length≤arr.size→
      ((vs.zipIdx k).foldl (fun cs (p:Value × Nat)=>cs.setIfInBounds (off+p.2) p.1) arr).toList=arr.toList.take (off+k)++vs++arr.toList.drop (off+k+vs.length) by
    intro off arr hl;simpa using h vs 0 off arr (by simpa using hl)
  intro vs
  induction vs with
  | nil=>intro k off arr hl;simp
  | cons v vs ih=>
    intro k off arr hl
    simp only [List.length_cons] at hl
    simp only [List.zipIdx_cons,List.foldl_cons]
    rw [ih (k+1) off _ (by simp;omega)]
    simp only [Array.toList_setIfInBounds,List.length_cons]
    have h1:(arr.toList.set (off+k) v).take (off+(k+1))=arr.toList.take (off+k)++[v]:=by
      rw [show off+(k+1)=off+k+1 from by omega,List.take_succ_eq_append_getElem (by simp;omega)]
      simp [List.take_set_of_le]
    have h2:(arr.toList.set (off+k) v).drop (off+(k+1)+vs.length)=arr.toList.drop (off+k+(vs.length+1)):=by
      rw [List.drop_set_of_lt (by omega)];congr 1;omega
    rw [h1,h2];simp
theorem fill_run {μ:Mu} {X:Wd} {place:Nat→Option (Nat × Nat)}:∀ {parts:List (Nat × List AC)} {vs:List (Nat × Value)} {cells:List AC} {arr:Array Value} {out:List AC},
    All2 (fun (p:Nat × List AC) (v:Nat × Value)=>p.1=v.1∧All2 (AC.holds μ X) p.2 v.2.cells.toList) parts vs→All2 (AC.holds μ X) cells arr.toList→bfill place cells parts=some out→
    ∃ arr',Instr.fill place arr vs=some arr'∧All2 (AC.holds μ X) out arr'.toList
  | [],vs,cells,arr,out,hp,hc,hb=>by
    obtain rfl:=hp.nil_inv
    simp [bfill] at hb;subst hb
    exact ⟨arr,rfl,hc⟩
  | (i,p)::parts,vs,cells,arr,out,hp,hc,hb=>by
    obtain ⟨⟨i',v⟩,vs',rfl,⟨h1,h2⟩,h3⟩:=hp.cons_inv
    simp only at h1 h2;subst h1
    simp only [bfill] at hb
    cases hpl:place i with
    | none=>simp [hpl] at hb
    | some os=>
      obtain ⟨off,size⟩:=os
      simp only [hpl] at hb
      split at hb
      · rename_i hcond
        have hvl:v.cells.size=size:=by have:=h2.1;rw [hcond.1] at this;simpa using this.symm
        have hal:off+v.cells.size≤arr.size:=by have:=hc.1;simp at this;omega
        have hf:=foldl_set v.cells.toList off arr (by simpa using hal)
        have hnew:All2 (AC.holds μ X) (cells.take off++p++cells.drop (off+size)) (v.cells.zipIdx.foldl (fun cs (c,j)=>cs.setIfInBounds (off+j) c) arr).toList:=by
          have e:v.cells.zipIdx.foldl (fun cs (c,j)=>cs.setIfInBounds (off+j) c) arr=(v.cells.toList.zipIdx 0).foldl (fun cs (p:Value × Nat)=>cs.setIfInBounds (off+p.2) p.1) arr:=by
            rw [← Array.foldl_toList,Array.toList_zipIdx]
          rw [e,hf]
          have hvl':v.cells.toList.length=size:=by simpa using hvl
          rw [hvl']
          exact ((hc.take off).append h2).append (hc.drop (off+size))
        obtain ⟨arr',h4,h5⟩:=fill_run (place:=place) h3 hnew hb
        refine ⟨arr',?_,h5⟩
        simp only [Instr.fill,hpl]
        rw [if_neg (by simp [hvl];omega)]
        exact h4
      · cases hb
theorem parts_hold {τ:St} {a:Act} {w:World} {G:Gh} (h:RelG C τ a w G) {parts:List (Nat × Operand)} {ps:List (Nat × List AC)} (hp:All2 (fun (x:Nat × Operand) (p:Nat × List AC)=>x.1=p.1∧∃ s,τ.look x.2=.s s∧s.cells=p.2) parts ps) :
    All2 (fun (p:Nat × List AC) (v:Nat × Value)=>p.1=v.1∧All2 (AC.holds G.μ ⟨w,G.S⟩) p.2 v.2.cells.toList) ps (parts.map fun (i,x)=>(i,a.eval x)):=by
  refine ⟨by simp [hp.1],fun i p v hpi hv=>?_⟩
  rw [List.getElem?_map] at hv
  cases hx:parts[i]? with
  | none=>rw [hx] at hv;cases hv
  | some x=>
    rw [hx] at hv;simp at hv;subst hv
    obtain ⟨h1,s,h2,h3⟩:=hp.2 i x p hx hpi
    have h4:s.holds G.μ ⟨w,G.S⟩ (a.eval x.2):=look_of h h2
    exact ⟨h1.symm,h3 ▸ h4.cells⟩
class TF (P:Program) (T:TypeId) (fs:outParam (List (Nat × Nat))):Prop where
  fields:(match P.underlying T with|some (.struct fields)=>fields.toList.mapM (fun f=>(P.info? f.type).map fun i=>(f.offset,i.size))|_=>none)=some fs
theorem build_go {T:TypeId} {parts:Array (Nat × Operand)} {place:Nat→Option (Nat × Nat)} {z:List Value} [hz:TZ C.P T z] {ps:List (Nat × List AC)} {cs:List AC} (ho:o.op=.build T parts)
    (hbt:∀ (zv:Value) (i:TypeInfo) l,C.P.info? T=some i→i.zero=some zv→C.P.built T l=Instr.fill place zv.cells l)
    (hp:All2 (fun (x:Nat × Operand) (p:Nat × List AC)=>x.1=p.1∧∃ s,σ.look x.2=.s s∧s.cells=p.2) parts.toList ps) (h1:z.all (·.oneCell')=true)
    (hb:bfill place (z.map fun v=>.p (.v v)) ps=some cs) (hd:dOk C o.dst=true):LOp C o σ ⟨.a cs,[]⟩ (fun _=>false):=
  lop_val hd fun τ a w G hl hm' h=>by
    have hzz:=hz.zero
    cases hi:C.P.info? T with
    | none=>simp [hi] at hzz
    | some i=>
      simp only [hi,Option.bind_some] at hzz
      cases hz0:i.zero with
      | none=>simp [hz0] at hzz
      | some zv=>
        simp only [hz0,Option.map_some,Option.some.injEq] at hzz
        have hp':All2 (fun (x:Nat × Operand) (p:Nat × List AC)=>x.1=p.1∧∃ s,τ.look x.2=.s s∧s.cells=p.2) parts.toList ps:=by
          refine ⟨hp.1,fun j x p hx hpp=>?_⟩
          obtain ⟨k1,s,k2,k3⟩:=hp.2 j x p hx hpp
          refine ⟨k1,s,?_,k3⟩
          rw [hl x.2 ?_];exact k2
          simp only [ho,Op.operands,List.mem_toArray,List.mem_map]
          exact ⟨x,List.mem_of_getElem? hx,rfl⟩
        have hph:=parts_hold h hp'
        have hzh:All2 (AC.holds G.μ ⟨w,G.S⟩) (z.map fun v=>.p (.v v)) zv.cells.toList:=by
          rw [hzz]
          refine ⟨by simp,fun j c v hc hv=>?_⟩
          rw [List.getElem?_map,hv] at hc
          simp at hc;subst hc
          exact ⟨rfl,by have:=List.all_eq_true.1 h1 v (List.mem_of_getElem? hv);simpa using this⟩
        obtain ⟨arr',h4,h5⟩:=fill_run hph hzh hb
        have hparts:(parts.map fun (i,x)=>(i,a.eval x)).toList=parts.toList.map fun (i,x)=>(i,a.eval x):=by simp
        have hbu:=run_build (P:=C.P) w T (parts.map fun (i,x)=>(i,a.eval x)) arr' (by rw [hbt zv i _ hi hz0,hparts];exact h4)
        refine ⟨.agg arr',?_,arr'.toList,by simp,h5⟩
        simp only [execOp,ho,Sem.run_bind,hbu,Result.andThen_ok,Sem.run_pure]
theorem lop_build {T:TypeId} {parts:Array (Nat × Operand)} {fs:List (Nat × Nat)} [hF:TF C.P T fs] {z:List Value} [hz:TZ C.P T z] {ps:List (Nat × List AC)} {cs:List AC} (ho:o.op=.build T parts)
    (hp:All2 (fun (x:Nat × Operand) (p:Nat × List AC)=>x.1=p.1∧∃ s,σ.look x.2=.s s∧s.cells=p.2) parts.toList ps) (h1:z.all (·.oneCell')=true)
    (hb:bfill (fun i=>fs[i]?) (z.map fun v=>.p (.v v)) ps=some cs) (hd:dOk C o.dst=true):LOp C o σ ⟨.a cs,[]⟩ (fun _=>false):=
  build_go ho (fun zv i l hi hz0=>by
    have hf:=hF.fields
    cases hu:C.P.underlying T with
    | none=>simp [hu] at hf
    | some d=>
      cases d<;>simp only [hu] at hf<;>try (cases hf;done)
      unfold Program.built
      simp only [hi,hu,hz0,hf]
      congr 1;funext i;simp) hp h1 hb hd
theorem lop_build_arr {T e:TypeId} {parts:Array (Nat × Operand)} {n sz by_:Nat} [hT:TI C.P T (.array n e) sz by_] {ke:TK} {sze be:Nat} [he:TI C.P e ke sze be] {z:List Value} [hz:TZ C.P T z] {ps:List (Nat × List AC)} {cs:List AC} (ho:o.op=.build T parts)
    (hp:All2 (fun (x:Nat × Operand) (p:Nat × List AC)=>x.1=p.1∧∃ s,σ.look x.2=.s s∧s.cells=p.2) parts.toList ps) (h1:z.all (·.oneCell')=true)
    (hb:bfill (fun i=>some (i * sze,sze)) (z.map fun v=>.p (.v v)) ps=some cs) (hd:dOk C o.dst=true):LOp C o σ ⟨.a cs,[]⟩ (fun _=>false):=
  build_go ho (fun zv i l hi hz0=>by
    obtain ⟨d,hdd,hkk⟩:=hT.undd
    have:d=.array n e:=by cases d<;>simp [TK.of] at hkk;rw [hkk.1,hkk.2]
    subst this
    obtain ⟨ie,h7,h8,_⟩:=he.infoo
    unfold Program.built
    simp only [hi,hdd,hz0,h7,h8]) hp h1 hb hd
def rowsOf (ps:List (Nat × List PVal)):List (List PVal):=ps.map (·.2)
theorem fill_slice {X:Wd} {μ:Mu} (es:Nat):∀ (ps:List (Nat × List PVal)) (vs:List (Nat × Value)) (k:Nat) (arr:Array Value),
    All2 (fun (p:Nat × List PVal) (v:Nat × Value)=>p.1=v.1∧p.2.length=es∧All2 (fun (q:PVal) u=>q.holds X u) p.2 v.2.cells.toList) ps vs→(∀ i p,ps[i]?=some p→p.1=k+i)→(k+ps.length) * es≤arr.size→
    ∃ arr',Instr.fill (fun i=>some (i * es,es)) arr vs=some arr'∧arr'.size=arr.size∧(∀ j,j < k * es→arr'[j]?=arr[j]?)∧
      ∀ i p,ps[i]?=some p→∀ j q,p.2[j]?=some q→∃ u,arr'[(k+i) * es+j]?=some u∧q.holds X u
  | [],vs,k,arr,hp,_,_=>by
    obtain rfl:=hp.nil_inv
    exact ⟨arr,rfl,rfl,fun _ _=>rfl,fun i p h=>by simp at h⟩
  | (i0,p)::ps,vs,k,arr,hp,hi,hl=>by
    obtain ⟨⟨i',v⟩,vs',rfl,⟨h1,h2,h2'⟩,h3⟩:=hp.cons_inv
    simp only at h1 h2 h2'
    have hk:i0=k:=by have:=hi 0 (i0,p) rfl;simpa using this
    subst hk;subst h1
    have hvl:v.cells.size=es:=by have:=h2'.1;rw [h2] at this;simpa using this.symm
    simp only [List.length_cons] at hl
    have hke:i0 * es+es≤arr.size:=by
      have:(i0+(ps.length+1)) * es=i0 * es+es+ps.length * es:=by rw [show i0+(ps.length+1)=i0+1+ps.length from by omega,Nat.add_mul,Nat.add_mul];omega
      omega
    have hf:=foldl_set v.cells.toList (i0 * es) arr (by simp [hvl];omega)
    have e:v.cells.zipIdx.foldl (fun cs (c,j)=>cs.setIfInBounds (i0 * es+j) c) arr=(v.cells.toList.zipIdx 0).foldl (fun cs (p:Value × Nat)=>cs.setIfInBounds (i0 * es+p.2) p.1) arr:=by
      rw [← Array.foldl_toList,Array.toList_zipIdx]
    generalize hA:v.cells.zipIdx.foldl (fun cs (c,j)=>cs.setIfInBounds (i0 * es+j) c) arr=A at *
    rw [← e] at hf
    have hvl':v.cells.toList.length=es:=by simpa using hvl
    rw [hvl'] at hf
    have hAs:A.size=arr.size:=by
      have:=congrArg List.length hf
      simp [hvl] at this;omega
    have hAget:∀ (j:Nat),A[j]?=(arr.toList.take (i0 * es)++v.cells.toList++arr.toList.drop (i0 * es+es))[j]?:=fun j=>by rw [← hf];simp
    have hroom:(i0+1+ps.length) * es≤A.size:=by
      rw [hAs,show i0+1+ps.length=i0+(ps.length+1) from by omega];exact hl
    obtain ⟨arr',h4,h5,h6,h7⟩:=fill_slice (X:=X) (μ:=μ) es ps vs' (i0+1) A h3 (fun i q hq=>by have:=hi (i+1) q (by simpa using hq);omega) hroom
    have htl:(arr.toList.take (i0 * es)).length=i0 * es:=by simp;omega
    refine ⟨arr',?_,h5.trans hAs,fun j hj=>?_,fun i q hq j r hr=>?_⟩
    · simp only [Instr.fill]
      rw [if_neg (by simp [hvl];omega),hA]
      exact h4
    · rw [h6 j (by rw [Nat.add_mul];omega),hAget j,List.append_assoc,List.getElem?_append_left (by rw [htl];exact hj),List.getElem?_take,if_pos hj]
      simp
    · cases i with
      | zero=>
        simp at hq;subst hq
        obtain ⟨u,hu,hru⟩:=h2'.get hr
        have hjlt:j < es:=by rw [← h2];exact (List.getElem?_eq_some_iff.1 hr).1
        refine ⟨u,?_,hru⟩
        simp only [Nat.add_zero]
        rw [h6 _ (by rw [Nat.add_mul];omega),hAget,List.append_assoc,List.getElem?_append_right (by rw [htl];omega),htl,List.getElem?_append_left (by rw [hvl'];omega)]
        rw [show i0 * es+j - i0 * es=j from by omega];exact hu
      | succ i=>
        have:=h7 i q (by simpa using hq) j r hr
        rw [show i0+(i+1)=i0+1+i from by omega];exact this
theorem lop_buildSlice {T e:TypeId} {n:Nat} {parts:Array (Nat × Operand)} {sz by_:Nat} [hT:TI C.P T (.slice e) sz by_] {ke:TK} {sze be:Nat} [he:TI C.P e ke sze be] {z:List Value} [hz:TZ C.P e z] {ps:List (Nat × List PVal)} (ho:o.op=.buildSlice T n parts)
    (hp:All2 (fun (x:Nat × Operand) (p:Nat × List PVal)=>x.1=p.1∧p.2.length=sze∧∃ s,σ.look x.2=.s s∧s.cells=p.2.map .p) parts.toList ps)
    (hi:ps.map (·.1)=List.range n) (hz0:0 < sze) (hsmall:n * sze≤2 ^ 24) (hd:dOk C o.dst=true):LOp C o σ ⟨.p (.sl sze (rowsOf ps) true),[]⟩ (fun _=>false):=
  lop_grow hd fun τ a w G hl hm' h=>by
    have hzz:=hz.zero
    cases hie:C.P.info? e with
    | none=>simp [hie] at hzz
    | some i=>
      simp only [hie,Option.bind_some] at hzz
      cases hz0':i.zero with
      | none=>simp [hz0'] at hzz
      | some zv=>
        obtain ⟨d,hdd,hkk⟩:=hT.undd
        have:d=.slice e:=by cases d<;>simp [TK.of] at hkk;rw [hkk]
        subst this
        have hpl:ps.length=n:=by have:=congrArg List.length hi;simpa using this
        have hidx:∀ i p,ps[i]?=some p→p.1=0+i:=fun i p hpi=>by
          have:(ps.map (·.1))[i]?=some p.1:=by rw [List.getElem?_map,hpi];rfl
          rw [hi] at this
          have hlt:i < n:=by rw [← hpl];exact (List.getElem?_eq_some_iff.1 hpi).1
          simp [hlt] at this;omega
        have hph:All2 (fun (p:Nat × List PVal) (v:Nat × Value)=>p.1=v.1∧p.2.length=sze∧All2 (fun (q:PVal) u=>q.holds ⟨w,G.S⟩ u) p.2 v.2.cells.toList) ps (parts.toList.map fun (i,x)=>(i,a.eval x)):=by
          refine ⟨by simp [← hp.1],fun j p v hpj hv=>?_⟩
          rw [List.getElem?_map] at hv
          cases hx:parts.toList[j]? with
          | none=>rw [hx] at hv;cases hv
          | some x=>
            rw [hx] at hv;simp at hv;subst hv
            obtain ⟨k1,k2,s,k3,k4⟩:=hp.2 j x p hx hpj
            have h4:s.holds G.μ ⟨w,G.S⟩ (a.eval x.2):=look_of h ((hl x.2 (by
              simp only [ho,Op.operands,List.mem_toArray,List.mem_map]
              exact ⟨x,List.mem_of_getElem? hx,rfl⟩)).trans k3)
            have h5:=h4.cells
            rw [k4] at h5
            refine ⟨k1.symm,k2,by have:=h5.1;simpa using this,fun i q u hq hu=>?_⟩
            exact h5.2 i (.p q) u (by simp [hq]) hu
        obtain ⟨arr',h4,h5,_,h7⟩:=fill_slice (X:=⟨w,G.S⟩) (μ:=G.μ) sze ps _ 0 ((Array.range (n * sze)).map (fun j=>zv.cells[j % zv.cells.size]!)) hph hidx (by simp [hpl])
        refine ⟨.slice (some ⟨w.heap.size,0,none⟩) n n,w.alloc (.cells arr' e),?_,Quiet.alloc _ _,?_⟩
        · have hparts:(parts.map fun (i,x)=>(i,a.eval x)).toList=parts.toList.map fun (i,x)=>(i,a.eval x):=by simp
          have h4':Instr.fill (fun i=>some (i * sze,sze)) ((Array.range (n * sze)).map (fun j=>(if n * sze=0 then #[] else zv.cells)[j % (if n * sze=0 then #[] else zv.cells).size]!)) (parts.map fun (i,x)=>(i,a.eval x)).toList=some arr':=by
            rw [hparts]
            by_cases hn0:n * sze=0
            · have e0:∀ f:Nat→Value,(Array.range 0).map f = #[]:=fun f=>by simp [Array.range]
              rw [hn0,e0] at h4 ⊢
              exact h4
            · simp only [hn0,if_false];exact h4
          simp only [execOp,ho,Instr.buildSlice,Sem.run_bind,run_underlying hdd,Result.andThen_ok,he.run_sizeOf]
          rw [if_neg (by omega)]
          split
          · rename_i hn0
            simp only [hn0,if_true] at h4' ⊢
            simp only [Sem.run_bind,Result.andThen_ok,Sem.run_pure,h4',newRow,run_newObj_alloc]
          · rename_i hn0
            simp only [hn0,if_false] at h4'
            have hz1:(zeroValue e).run C.P w=.ok zv w:=by simp [zeroValue,typeInfo,hie,hz0']
            simp only [Sem.run_bind,hz1,Result.andThen_ok,Sem.run_pure,h4',newRow,run_newObj_alloc]
        · refine ⟨some ⟨w.heap.size,0,none⟩,n,?_,?_,?_,?_,.inr ⟨rfl,?_,arr',e,(0,0),by simpa using heap_alloc_new w _,?_⟩⟩
          · simp [rowsOf,hpl]
          · simp [rowsOf,hpl]
          · have:n≤n * sze:=Nat.le_mul_of_pos_right n hz0
            simp only [maxLen];omega
          · simp [rowsOf,hpl]
          · simp
          · intro i row hrow
            simp only [rowsOf,List.getElem?_map] at hrow
            cases hpi:ps[i]? with
            | none=>rw [hpi] at hrow;cases hrow
            | some p=>
              rw [hpi] at hrow;simp at hrow;subst hrow
              have hi2:i < parts.toList.length:=by rw [hp.1];exact (List.getElem?_eq_some_iff.1 hpi).1
              obtain ⟨_,k2,_⟩:=hp.2 i _ p (List.getElem?_eq_getElem hi2) hpi
              refine ⟨k2,fun j q hq=>?_⟩
              obtain ⟨u,hu,hqu⟩:=h7 i p hpi j q hq
              refine ⟨u,by simpa using hu,q.mono (fun b hb=>⟨.inl hb,Below.heap_alloc w _ b (h.sbd b hb).1⟩) hqu⟩
end ops
end Go.Aw
/- THE ABSTRACT WALK, part 6: slices of slices, append, make, conversions. -/
namespace Go.Aw
open Go Go.RowKit
set_option linter.unusedVariables false
set_option linter.unusedSimpArgs false
section ops
variable {C:Ctx} {o:Oper} {σ:St}
theorem run_sb {P:Program} {k:IntKind} {i:Int} {y:Nat} {code:BoundsCode} {w:World} (h0:0≤i) (h1:i≤y):(Instr.sliceBound (.int k i) y code).run P w=.ok i.toNat w:=by
  simp [Instr.sliceBound,asIntOf,h0,h1]
theorem slice_go {T e:TypeId} {x:Operand} {lo hi mx:Option Operand} {sz by_:Nat} [hT:TI C.P T (.slice e) sz by_] {ke:TK} {sze be:Nat} [he:TI C.P e ke sze be] {rows:List (List PVal)} {ex ex':Bool} {l h:Nat} (vlo vhi vmx:Option (IntKind × Int))
    (ho:o.op=.slice T x lo hi mx) (hx:σ.look x=.p (.sl sze rows ex)) (hlo:lo.map σ.look=vlo.map fun p=>.p (.v (.int p.1 p.2))) (hhi:hi.map σ.look=vhi.map fun p=>.p (.v (.int p.1 p.2))) (hmx:mx.map σ.look=vmx.map fun p=>.p (.v (.int p.1 p.2)))
    (hb:∀ cap w,rows.length≤cap→(ex=true→cap=rows.length)→∃ m,(Instr.sliceBounds true rows.length cap (vlo.map fun p=>.int p.1 p.2) (vhi.map fun p=>.int p.1 p.2) (vmx.map fun p=>.int p.1 p.2)).run C.P w=.ok (l,h,m) w∧l≤h∧h≤m∧m≤cap∧(ex'=true→m=h))
    (hh:h≤rows.length) (hd:dOk C o.dst=true):LOp C o σ ⟨.p (.sl sze ((rows.drop l).take (h - l)) ex'),[]⟩ (fun _=>false):=
  lop_val hd fun τ a w G hl hm' hr=>by
    obtain ⟨base,cap,h1,h2,h3,h4,h5⟩:=look_of hr ((hl x (by simp [ho,Op.operands])).trans hx)
    have opt:∀ (q:Option Operand) (v:Option (IntKind × Int)),(∀ y,q=some y→y∈o.op.operands)→q.map σ.look=v.map (fun p=>AV.p (.v (.int p.1 p.2)))→q.map a.eval=v.map fun p=>Value.int p.1 p.2:=fun q v hq hv=>by
      cases q with
      | none=>cases v<;>simp_all
      | some y=>
        cases v with
        | none=>simp at hv
        | some p=>
          simp only [Option.map_some,Option.some.injEq] at hv ⊢
          exact val_of hr ((hl y (hq y rfl)).trans hv)
    have e1:=opt lo vlo (fun y hy=>by subst hy;simp [ho,Op.operands]) hlo
    have e2:=opt hi vhi (fun y hy=>by subst hy;simp [ho,Op.operands]) hhi
    have e3:=opt mx vmx (fun y hy=>by subst hy;simp [ho,Op.operands]) hmx
    obtain ⟨d,hdd,hkk⟩:=hT.undd
    have:d=.slice e:=by cases d<;>simp [TK.of] at hkk;rw [hkk]
    subst this
    obtain ⟨m,hm,hlh,hhm,hmc,hex⟩:=hb cap w h2 h4
    refine ⟨.slice (if m=l then base else base.map (·.add (l * sze))) (h - l) (m - l),?_,?_⟩
    · simp only [execOp,ho,Instr.sliceAt,Sem.run_bind,run_underlying hdd,Result.andThen_ok,Instr.slice,h1,e1,e2,e3,hm,he.run_sizeOf,Sem.run_pure]
    · have hlen:((rows.drop l).take (h - l)).length=h - l:=by simp;omega
      refine ⟨if m=l then base else base.map (·.add (l * sze)),m - l,by rw [hlen],by rw [hlen];omega,by omega,fun hq=>by rw [hlen,hex hq],?_⟩
      by_cases hml:m=l
      · have hnil:(rows.drop l).take (h - l)=[]:=List.eq_nil_of_length_eq_zero (by rw [hlen];omega)
        simp only [hml,if_true]
        cases base with
        | none=>exact ⟨by rw [← hml] at hnil ⊢;exact hnil,by omega⟩
        | some ad=>
          exact .inl hnil
      · simp only [hml,if_false]
        cases base with
        | none=>
          simp only [Option.map_none]
          obtain ⟨k1,k2⟩:=h5
          exact ⟨by simp [k1],by omega⟩
        | some ad=>
          rcases h5 with h5 | ⟨g1,g2,cs,ty,fr,g3,g4⟩
          · exact .inl (by simp [h5])
          simp only [Option.map_some,add_addr' ad g1]
          refine .inr ⟨by first|rfl|trivial,g2,cs,ty,fr,g3,fun i row hrow=>?_⟩
          have hrow':rows[l+i]?=some row:=by
            rw [List.getElem?_take] at hrow
            split at hrow
            · simpa using hrow
            · cases hrow
          refine ⟨(g4 _ _ hrow').1,fun j p hp=>?_⟩
          obtain ⟨c,hc,hcc⟩:=(g4 _ _ hrow').2 j p hp
          exact ⟨c,by rw [← hc];congr 1;simp only [Nat.add_mul];omega,hcc⟩
section
variable {T e:TypeId} {x:Operand} {sz by_:Nat} [hT:TI C.P T (.slice e) sz by_] {ke:TK} {sze be:Nat} [he:TI C.P e ke sze be] {rows:List (List PVal)} {ex:Bool} {kl kh km:IntKind} {l h m:Int} {xl xh xm:Operand}
include hT he
theorem lop_slice_l (ho:o.op=.slice T x (some xl) none none) (hx:σ.look x=.p (.sl sze rows ex)) (hlo:σ.look xl=.p (.v (.int kl l))) (h0:0≤l) (h1:l≤rows.length) (hd:dOk C o.dst=true):LOp C o σ ⟨.p (.sl sze (rows.drop l.toNat) ex),[]⟩ (fun _=>false):=by
  have:=slice_go (o:=o) (hT:=hT) (he:=he) (σ:=σ) (rows:=rows) (ex:=ex) (ex':=ex) (l:=l.toNat) (h:=rows.length) (some (kl,l)) none none ho hx (by simp [hlo]) rfl rfl
    (fun cap w hc he'=>⟨cap,by simp [Instr.sliceBounds,run_sb h0 h1],by omega,hc,Nat.le_refl _,he'⟩) (Nat.le_refl _) hd
  rwa [List.take_of_length_le (by simp)] at this
theorem lop_slice_lh (ho:o.op=.slice T x (some xl) (some xh) none) (hx:σ.look x=.p (.sl sze rows ex)) (hlo:σ.look xl=.p (.v (.int kl l))) (hhi:σ.look xh=.p (.v (.int kh h))) (h0:0≤l) (h01:l≤h) (h1:h≤rows.length) (hd:dOk C o.dst=true) :
    LOp C o σ ⟨.p (.sl sze ((rows.drop l.toNat).take (h.toNat - l.toNat)) false),[]⟩ (fun _=>false):=
  slice_go (o:=o) (hT:=hT) (he:=he) (σ:=σ) (rows:=rows) (ex:=ex) (ex':=false) (l:=l.toNat) (h:=h.toNat) (some (kl,l)) (some (kh,h)) none ho hx (by simp [hlo]) (by simp [hhi]) rfl
    (fun cap w hc he'=>⟨cap,by simp [Instr.sliceBounds,run_sb (y:=cap) (i:=h) (by omega) (by omega),run_sb (y:=h.toNat) h0 (by omega)],by omega,by omega,Nat.le_refl _,by simp⟩) (by omega) hd
theorem lop_slice_lhm (ho:o.op=.slice T x (some xl) (some xh) (some xm)) (hx:σ.look x=.p (.sl sze rows ex)) (hlo:σ.look xl=.p (.v (.int kl l))) (hhi:σ.look xh=.p (.v (.int kh h))) (hmx:σ.look xm=.p (.v (.int km m))) (h0:0≤l) (h01:l≤h) (hm:m=h) (h1:h≤rows.length) (hd:dOk C o.dst=true) :
    LOp C o σ ⟨.p (.sl sze ((rows.drop l.toNat).take (h.toNat - l.toNat)) true),[]⟩ (fun _=>false):=by
  subst hm
  exact slice_go (o:=o) (hT:=hT) (he:=he) (σ:=σ) (rows:=rows) (ex:=ex) (ex':=true) (l:=l.toNat) (h:=m.toNat) (some (kl,l)) (some (kh,m)) (some (km,m)) ho hx (by simp [hlo]) (by simp [hhi]) (by simp [hmx])
    (fun cap w hc he'=>⟨m.toNat,by simp [Instr.sliceBounds,run_sb (y:=cap) (i:=m) (by omega) (by omega),run_sb (y:=m.toNat) (i:=m) (by omega) (by omega),run_sb (y:=m.toNat) h0 (by omega)],by omega,by omega,by omega,by simp⟩) (by omega) hd
end
/-! ### Append -/
def SrcOk (C:Ctx) (σ:St) (x:Operand) (es:Nat) (rows:List (List PVal)) (ro:Nat→Bool):Prop:=
  ∀ τ a w G,τ.look x=σ.look x→(∀ y,ro y=true→τ.mem y=σ.mem y)→RelG C τ a w G→
    ∃ base cap,a.eval x=.slice base rows.length cap∧match base with
      | none=>rows=[]
      | some ad=>∀ i row,rows[i]?=some row→row.length=es∧∀ j p,row[j]?=some p→∃ c,w.cell? (ad.add (i * es+j))=some c∧p.holds ⟨w,G.S⟩ c
theorem cell_at {w:World} {ad:Addr} (ha:ad.spot=none) {cs:Array Value} {ty:TypeId} {fr:Nat × Nat} (hg:w.heap[ad.block]?=some (.cells cs ty fr)) (n:Nat):w.cell? (ad.add n)=cs[ad.off+n]?:=by
  rw [add_addr' ad ha,cell_of_row w _ _ _ _ _ hg]
theorem src_sl {x:Operand} {es:Nat} {rows:List (List PVal)} {ex:Bool} (hx:σ.look x=.p (.sl es rows ex)):SrcOk C σ x es rows (fun _=>false):=fun τ a w G h1 h2 h=>by
  obtain ⟨base,cap,k1,k2,k3,k4,k5⟩:=look_of h (h1.trans hx)
  refine ⟨base,cap,k1,?_⟩
  cases base with
  | none=>exact k5.1
  | some ad=>
    rcases k5 with k5 | ⟨g1,g2,cs,ty,fr,g3,g4⟩
    · intro i row hr;rw [k5] at hr;simp at hr
    refine fun i row hr=>⟨(g4 i row hr).1,fun j p hp=>?_⟩
    obtain ⟨c,hc,hh⟩:=(g4 i row hr).2 j p hp
    exact ⟨c,by rw [cell_at g1 g3,← hc];congr 1;omega,hh⟩
theorem src_osl {x:Operand} {ob g es lo len n ty:Nat} {rows:List (List PVal)} (hx:σ.look x=.o (.osl ob g es lo len)) (hm:σ.mem ob=(n,some (.buf ty es rows))) (hn:n=g+1) (hl:lo+len≤rows.length) :
    SrcOk C σ x es ((rows.drop lo).take len) (fun y=>y == ob):=fun τ a w G h1 h2 h=>by
  subst hn
  obtain ⟨m,c,k1,k2,k3⟩:=look_of h (h1.trans hx)
  obtain ⟨g',m',hg,hmm,hes,hmax,hlen,hh⟩:=h.mem ob _ _ (by rw [h2 ob (by simp)];exact hm)
  obtain rfl:g=g':=by omega
  rw [k1] at hmm;obtain rfl:=Option.some.inj hmm
  have hln:((rows.drop lo).take len).length=len:=by simp;omega
  refine ⟨m.map fun b=>⟨b,lo * es,none⟩,c - lo,by rw [hln];exact k3,?_⟩
  rcases hh with ⟨h3,h4,h5⟩ | ⟨b,arr,h3,h4,h5,h6,h7⟩
  · simp only at h3 h4 hlen
    subst h3
    simp only [Option.map_none]
    exact List.eq_nil_of_length_eq_zero (by rw [hln];omega)
  · simp only at h3;subst h3
    simp only [Option.map_some]
    intro i row hr
    have hr':rows[lo+i]?=some row:=by
      rw [List.getElem?_take] at hr
      split at hr
      · simpa using hr
      · cases hr
    refine ⟨(h7 _ _ hr').1,fun j p hp=>?_⟩
    obtain ⟨u,hu,hpu⟩:=(h7 _ _ hr').2 j p hp
    exact ⟨u,by rw [cell_at rfl h5,← hu];congr 1;simp only [Nat.add_mul];omega,hpu⟩
theorem src_asl {x:Operand} {ob g off len cap n:Nat} {ty:TypeId} {cs:List AC} {rows:List (List PVal)} {es:Nat} (hx:σ.look x=.o (.asl ob g off len cap)) (hm:σ.mem ob=(n,some (.box ty cs))) (hn:n=g+1)
    (hlen:rows.length=len) (hr:∀ i row,rows[i]?=some row→row.length=es∧∀ j p,row[j]?=some p→cs[off+i * es+j]?=some (.p p)):SrcOk C σ x es rows (fun y=>y == ob):=fun τ a w G h1 h2 h=>by
  subst hn
  obtain ⟨b,c,k1,k2⟩:=look_of h (h1.trans hx)
  obtain ⟨g',m',hg,hmm,b',arr,h4,h5,h6,h7⟩:=h.mem ob _ _ (by rw [h2 ob (by simp)];exact hm)
  obtain rfl:g=g':=by omega
  rw [k1] at hmm;obtain rfl:=Option.some.inj hmm
  simp only [Option.some.injEq] at h4;subst h4
  refine ⟨some ⟨b,off,none⟩,cap,by rw [hlen];exact k2,fun i row hrow=>⟨(hr i row hrow).1,fun j p hp=>?_⟩⟩
  obtain ⟨v,hv,hh⟩:=h7.get ((hr i row hrow).2 j p hp)
  exact ⟨v,by rw [add_addr,cell_row h6,← hv];congr 1;omega,hh⟩
theorem rows_vals {X:Wd} {es:Nat} {f:Nat→Option Value}:∀ (rows:List (List PVal)),(∀ i row,rows[i]?=some row→row.length=es∧∀ j p,row[j]?=some p→∃ c,f (i * es+j)=some c∧p.holds X c)→
    ∃ vs:List Value,vs.length=rows.length * es∧(∀ j u,vs[j]?=some u→f j=some u)∧(∀ u∈vs,u.oneCell'=true)∧∀ i row,rows[i]?=some row→row.length=es∧∀ j p,row[j]?=some p→∃ c,vs[i * es+j]?=some c∧p.holds X c:=by
  intro rows h
  have hget:∀ j,j < rows.length * es→∃ c,f j=some c∧c.oneCell'=true:=fun j hj=>by
    have hes:0 < es:=by
      rcases Nat.eq_zero_or_pos es with h0|h0
      · rw [h0] at hj;simp at hj
      · exact h0
    have hi:j / es < rows.length:=Nat.div_lt_of_lt_mul (by rw [Nat.mul_comm];exact hj)
    obtain ⟨h1,h2⟩:=h (j / es) rows[j / es] (List.getElem?_eq_getElem hi)
    have hm:j % es < rows[j / es].length:=by rw [h1];exact Nat.mod_lt _ hes
    obtain ⟨c,hc,hh⟩:=h2 (j % es) _ (List.getElem?_eq_getElem hm)
    refine ⟨c,?_,PVal.one _ hh⟩
    rw [← hc];congr 1
    have:=Nat.div_add_mod j es
    rw [Nat.mul_comm] at this;omega
  let vs:=(List.range (rows.length * es)).map fun j=>(f j).getD undef
  have hvs:∀ j,j < rows.length * es→vs[j]?=some ((f j).getD undef):=fun j hj=>by simp [vs,hj]
  have hlen:vs.length=rows.length * es:=by simp [vs]
  refine ⟨vs,hlen,fun j u hu=>?_,fun u hu=>?_,fun i row hr=>⟨(h i row hr).1,fun j p hp=>?_⟩⟩
  · have hj:j < rows.length * es:=by rw [← hlen];exact (List.getElem?_eq_some_iff.1 hu).1
    obtain ⟨c,hc,_⟩:=hget j hj
    rw [hvs j hj,hc] at hu
    simp at hu;rw [hc,hu]
  · obtain ⟨j,hj,hju⟩:=List.mem_iff_getElem.1 hu
    have hj':j < rows.length * es:=by rw [← hlen];exact hj
    obtain ⟨c,hc,h1⟩:=hget j hj'
    have h2:=hvs j hj'
    rw [List.getElem?_eq_getElem hj,hju,hc] at h2
    simp at h2;rw [h2];exact h1
  · obtain ⟨c,hc,hh⟩:=(h i row hr).2 j p hp
    have hi:i < rows.length:=(List.getElem?_eq_some_iff.1 hr).1
    have hj:j < es:=by rw [← (h i row hr).1];exact (List.getElem?_eq_some_iff.1 hp).1
    have hlt:i * es+j < rows.length * es:=by
      have:(i+1) * es≤rows.length * es:=Nat.mul_le_mul_right _ hi
      rw [Nat.add_mul] at this;omega
    exact ⟨c,by rw [hvs _ hlt,hc];rfl,hh⟩
theorem app_fresh {P:Program} {T e ty:TypeId} {sz by_:Nat} (hT:TI P T (.slice e) sz by_) {ke:TK} {es be:Nat} (he:TI P e ke es be) {z:List Value} (hz:TZ P e z) (hzl:z.length=es) {w:World}
    {bs src:Option Addr} {n cap m c:Nat} {olds news:List Value} (hbase:(bs=none∧n=0∧cap=0∧olds=[])∨∃ b,bs=some b∧olds.length=n * es∧n≤cap∧∀ j u,olds[j]?=some u→w.cell? (b.add j)=some u)
    (hnl:news.length=m * es) (hsrc:0 < m→∃ a,src=some a∧∀ j u,news[j]?=some u→w.cell? (a.add j)=some u)
    (hgrow:cap < n+m) (h63:n+m≤maxLen) (hby:(n+m) * be≤140737488355328) :
    ∃ cap' arr,(Builtin.append_ #[T,T] ty #[.slice bs n cap,.slice src m c]).run P w=.ok (.slice (some ⟨w.heap.size,0,none⟩) (n+m) cap') (w.drew.alloc (.cells arr e))∧
      n+m≤cap'∧cap'≤maxLen∧arr.size=cap' * es∧arr.toList.take ((n+m) * es)=olds++news:=by
  obtain ⟨d,hdd,hkk⟩:=hT.undd
  have:d=.slice e:=by cases d<;>simp [TK.of] at hkk;rw [hkk]
  subst this
  obtain ⟨i,hi,his,hib⟩:=he.infoo
  have hzz:=hz.zero
  simp only [hi,Option.bind_some] at hzz
  cases hz0:i.zero with
  | none=>simp [hz0] at hzz
  | some zv=>
    simp only [hz0,Option.map_some,Option.some.injEq] at hzz
    have hzs:zv.cells.size=es:=by rw [← hzl,← hzz];simp
    have hsmall:n+m≤9223372036854775807:=by simp only [maxLen] at h63;omega
    have hge:=grownCap_ge w (n+m) cap e
    have hcm:=grownCap_le_maxLen w (n+m) cap e h63
    have hm:0 < m:=by
      rcases hbase with ⟨_,h1,h2,_⟩ | ⟨b,_,_,h1,_⟩<;>omega
    obtain ⟨a,rfl,hnews⟩:=hsrc hm
    subst his hib
    have hol:olds.length=n * i.size:=by
      rcases hbase with ⟨_,rfl,_,rfl⟩ | ⟨b,_,h1,_⟩
      · simp
      · exact h1
    have hlen:(olds++news).length=(n+m) * i.size:=by rw [List.length_append,hol,hnl,Nat.add_mul]
    refine ⟨grownCap w (n+m) cap e,olds.toArray++news.toArray++Builtin.zeroCells zv.cells (grownCap w (n+m) cap e - (n+m)),?_,hge,hcm,?_,?_⟩
    · rcases hbase with ⟨rfl,rfl,rfl,rfl⟩ | ⟨b,rfl,h1,h2,h3⟩
      · have hr:=run_append_nil (P:=P) w T ty e i zv hdd hi hz0 a m c news hnl hnews hm (by omega) (by simp only [Nat.zero_add] at hby;omega)
        simpa using hr
      · exact run_append_grow (P:=P) w T ty e i zv hdd hi hz0 b n cap olds h1 h3 a m c news hnl hnews hgrow (by omega) (growslice_fits hgrow hby)
    · simp only [Array.size_append,List.size_toArray,size_zeroCells,hzs,hol,hnl,← Nat.add_mul]
      congr 1;omega
    · simp only [Array.toList_append,List.append_assoc]
      rw [← List.append_assoc,← hlen]
      exact List.take_left
theorem app_nothing {P:Program} {T e ty:TypeId} {sz by_:Nat} (hT:TI P T (.slice e) sz by_) {ke:TK} {es be:Nat} (he:TI P e ke es be) {w:World} {bs src:Option Addr} {n cap c:Nat} (hn:n≤cap) :
    (Builtin.append_ #[T,T] ty #[.slice bs n cap,.slice src 0 c]).run P w=.ok (.slice bs n cap) w:=by
  obtain ⟨d,hdd,hkk⟩:=hT.undd
  have:d=.slice e:=by cases d<;>simp [TK.of] at hkk;rw [hkk]
  subst this
  cases src<;>cases bs<;>simp [Builtin.append_,run_underlying hdd,he.run_sizeOf,Builtin.lenOf,hn,Builtin.firstCells,loadCells,loadCellsFrom,storeCells]
theorem rowsAt_append {X:Wd} {arr:Array Value} {es:Nat} {rows news:List (List PVal)} {olds nvs:List Value} (ho:olds.length=rows.length * es) (hn:nvs.length=news.length * es)
    (htake:arr.toList.take ((rows.length+news.length) * es)=olds++nvs)
    (hold:∀ i row,rows[i]?=some row→row.length=es∧∀ j p,row[j]?=some p→∃ c,olds[i * es+j]?=some c∧p.holds X c)
    (hnew:∀ i row,news[i]?=some row→row.length=es∧∀ j p,row[j]?=some p→∃ c,nvs[i * es+j]?=some c∧p.holds X c):RowsAt X arr 0 es (rows++news):=by
  have hget:∀ (k:Nat) u,(olds++nvs)[k]?=some u→arr[k]?=some u:=fun k u hk=>by
    rw [← htake,List.getElem?_take] at hk
    split at hk
    · simpa using hk
    · cases hk
  intro i row hr
  by_cases hi:i < rows.length
  · rw [List.getElem?_append_left hi] at hr
    refine ⟨(hold i row hr).1,fun j p hp=>?_⟩
    obtain ⟨c,hc,hh⟩:=(hold i row hr).2 j p hp
    refine ⟨c,hget _ _ ?_,hh⟩
    rw [Nat.zero_add,List.getElem?_append_left (List.getElem?_eq_some_iff.1 hc).1];exact hc
  · rw [List.getElem?_append_right (by omega)] at hr
    refine ⟨(hnew _ row hr).1,fun j p hp=>?_⟩
    obtain ⟨c,hc,hh⟩:=(hnew _ row hr).2 j p hp
    refine ⟨c,hget _ _ ?_,hh⟩
    have e:(i - rows.length) * es=i * es - rows.length * es:=Nat.sub_mul _ _ _
    have hle:rows.length * es≤i * es:=Nat.mul_le_mul_right _ (by omega)
    rw [Nat.zero_add,List.getElem?_append_right (by rw [ho];omega),ho,← hc]
    congr 1;omega
theorem wle_drew_alloc {w:World} {S:Nat→Prop} (hS:∀ b,S b→b < w.heap.size) (ob:Obj):Wd.le ⟨w,S⟩ ⟨w.drew.alloc ob,S⟩:=fun b hb=>⟨hb,Below.heap_alloc w.drew ob b (hS b hb)⟩
section append
variable {T e:TypeId} {x y:Operand} {sz by_:Nat} [hT:TI C.P T (.slice e) sz by_] {ke:TK} {es be:Nat} [he:TI C.P e ke es be] {z:List Value} [hz:TZ C.P e z] {news:List (List PVal)} {ro:Nat→Bool}
theorem src_vals {τ:St} {a:Act} {w:World} {G:Gh} {base:Option Addr} (h:match base with
      | none=>news=[]
      | some ad=>∀ i row,news[i]?=some row→row.length=es∧∀ j p,row[j]?=some p→∃ c,w.cell? (ad.add (i * es+j))=some c∧p.holds ⟨w,G.S⟩ c) :
    ∃ nvs:List Value,nvs.length=news.length * es∧(0 < news.length→∃ ad,base=some ad∧∀ j u,nvs[j]?=some u→w.cell? (ad.add j)=some u)∧(∀ u∈nvs,u.oneCell'=true)∧
      ∀ i row,news[i]?=some row→row.length=es∧∀ j p,row[j]?=some p→∃ c,nvs[i * es+j]?=some c∧p.holds ⟨w,G.S⟩ c:=by
  cases base with
  | none=>simp only at h;subst h;exact ⟨[],by simp,by simp,by simp,by simp⟩
  | some ad=>
    obtain ⟨vs,h1,h2,h3,h4⟩:=rows_vals (X:=⟨w,G.S⟩) (es:=es) (f:=fun j=>w.cell? (ad.add j)) news h
    exact ⟨vs,h1,fun _=>⟨ad,rfl,h2⟩,h3,h4⟩
include hT he hz
theorem lop_append_osl {ob g n len:Nat} {rows:List (List PVal)} (ho:o.op=.call ⟨.builtin .append,#[x,y],#[T,T]⟩) (hx:σ.look x=.o (.osl ob g es 0 len)) (hm:σ.mem ob=(n,some (.buf e es rows))) (hn:n=g+1) (hlr:len=rows.length)
    (hsrc:SrcOk C σ y es news ro) (hzl:z.length=es) (h63:rows.length+news.length≤maxLen) (hby:(rows.length+news.length) * be≤140737488355328) (hd:dOk C o.dst=true) :
    LOp C o σ ⟨.o (.osl ob n es 0 (rows.length+news.length)),[(ob,(n+1,some (.buf e es (rows++news))))]⟩ (fun q=>ro q||q == ob):=
  lop_gen (by simp) hd hm fun τ a w G hl hm' h=>by
    subst hn hlr
    obtain ⟨m,c,p1,p2,p3⟩:=look_of h ((hl x (by simp [ho,Op.operands,Call.operands])).trans hx)
    obtain ⟨base,cap,h1,h2⟩:=hsrc τ a w G (hl y (by simp [ho,Op.operands,Call.operands])) (fun q hq=>hm' q (by simp [hq])) h
    obtain ⟨nvs,k1,k2,k3,k4⟩:=src_vals (τ:=τ) (a:=a) h2
    have hlen:(G.μ ob).length=g+1:=by have:=h.gens ob;rw [hm' ob (by simp),hm] at this;exact this
    obtain ⟨g',m',hg,hmm,hes,hmax,hrl,hh⟩:=h.mem ob _ _ (by rw [hm' ob (by simp)];exact hm)
    obtain rfl:g=g':=by omega
    rw [p1] at hmm;obtain rfl:=Option.some.inj hmm
    simp only [Nat.zero_mul,Nat.sub_zero] at p3
    simp only at hrl hmax hh
    -- the old rows' values
    have hold:∃ olds:List Value,((m=none∧rows.length=0∧c=0∧olds=[])∨∃ b,m=some b∧olds.length=rows.length * es∧rows.length≤c∧∀ j u,olds[j]?=some u→w.cell? ((⟨b,0,none⟩:Addr).add j)=some u)∧
        olds.length=rows.length * es∧(∀ i row,rows[i]?=some row→row.length=es∧∀ j p,row[j]?=some p→∃ u,olds[i * es+j]?=some u∧p.holds ⟨w,G.S⟩ u):=by
      rcases hh with ⟨h3,h4,h5⟩ | ⟨b,arr,h3,h4,h5,h6,h7⟩
      · have hr0:rows=[]:=List.eq_nil_of_length_eq_zero (by omega)
        subst hr0
        exact ⟨[],.inl ⟨h3,rfl,h4,rfl⟩,by simp,by simp⟩
      · have hcell:∀ j,w.cell? ((⟨b,0,none⟩:Addr).add j)=arr[j]?:=fun j=>by rw [cell_at rfl h5];simp
        obtain ⟨vs,q1,q2,q3,q4⟩:=rows_vals (X:=⟨w,G.S⟩) (es:=es) (f:=fun j=>arr[j]?) rows (fun i row hr=>⟨(h7 i row hr).1,fun j p hp=>by
          obtain ⟨u,hu,hpu⟩:=(h7 i row hr).2 j p hp
          exact ⟨u,by simpa using hu,hpu⟩⟩)
        exact ⟨vs,.inr ⟨b,h3,q1,hrl,fun j u hu=>by rw [hcell];exact q2 j u hu⟩,q1,q4⟩
    obtain ⟨olds,hb,hol,ho4⟩:=hold
    by_cases hroom:rows.length+news.length≤c
    · by_cases h0:news.length=0
      · have hnil:news=[]:=List.eq_nil_of_length_eq_zero h0
        subst hnil
        have hr:=app_nothing (ty:=o.type) hT he (w:=w) (bs:=m.map fun b=>⟨b,0,none⟩) (src:=base) (n:=rows.length) (cap:=c) (c:=cap) hrl
        refine ⟨a.eval x,w,(m,c),G.φ ob,?_,rfl,.same,rfl,Nat.le_refl _,fun _ _ _=>rfl,fun b hb=>⟨.inl hb,(h.own ob b hb).2⟩,?_,?_⟩
        · simp only [execOp,ho,resolve,invoke,builtin,Sem.run_bind,Sem.run_pure,Result.andThen_ok,List.map_toArray,List.map_cons,List.map_nil,p3,h1,List.length_nil,hr]
        · simp only [List.append_nil];exact ⟨hes,hmax,hrl,hh⟩
        · exact ⟨m,c,mu_new hlen,by simpa using hrl,by simpa using p3⟩
      · -- room: written in place
        rcases hh with ⟨h3,h4,h5⟩ | ⟨b,arr,h3,h4,h5,h6,h7⟩
        · omega
        · subst h3
          rcases hb with ⟨hb,_⟩ | ⟨b',hb',_,_,hb3⟩
          · cases hb
          · obtain rfl:=Option.some.inj hb'
            obtain ⟨ad,rfl,hnews⟩:=k2 (by omega)
            obtain ⟨d,hdd,hkk⟩:=hT.undd
            have:d=.slice e:=by cases d<;>simp [TK.of] at hkk;rw [hkk]
            subst this
            obtain ⟨i,hi,his,hib⟩:=he.infoo
            subst his
            have hfit:rows.length * i.size+nvs.length≤arr.size:=by rw [k1,h6,← Nat.add_mul];exact Nat.mul_le_mul_right _ hroom
            have hr:=run_append_room (P:=C.P) w T o.type e i hdd hi b rows.length c arr h5 ad news.length cap nvs k1 hnews k3 hroom hfit
            have hbS:¬ G.S b:=h.stab ob b (by rw [h4];simp)
            have hle:Wd.le ⟨w,G.S⟩ ⟨w.setRow b (arr.toList.take (rows.length * i.size)++nvs++arr.toList.drop (rows.length * i.size+nvs.length)).toArray,G.S⟩:=fun k hk=>⟨hk,setRow_other w b k _ fun e=>hbS (e ▸ hk)⟩
            have htk:arr.toList.take (rows.length * i.size)=olds:=by
              apply List.ext_getElem?
              intro j
              by_cases hj:j < rows.length * i.size
              · rw [List.getElem?_take,if_pos hj]
                have hjo:j < olds.length:=by rw [hol];exact hj
                have h9:=hb3 j olds[j] (List.getElem?_eq_getElem hjo)
                rw [cell_at rfl h5] at h9
                rw [List.getElem?_eq_getElem hjo];simpa using h9
              · rw [List.getElem?_eq_none (by simp;omega),List.getElem?_eq_none (by omega)]
            refine ⟨.slice (some ⟨b,0,none⟩) (rows.length+news.length) c,w.setRow b (arr.toList.take (rows.length * i.size)++nvs++arr.toList.drop (rows.length * i.size+nvs.length)).toArray,(some b,c),[b],by
              simp only [execOp,ho,resolve,invoke,builtin,Sem.run_bind,Sem.run_pure,Result.andThen_ok,List.map_toArray,List.map_cons,List.map_nil,p3,Option.map_some,h1,hr],setRow_frame.1,setRow_frame.2.1,setRow_frame.2.2.1,Nat.le_of_eq setRow_frame.2.2.2,
              fun k _ hk=>setRow_other w b k _ fun e=>hk (by rw [h4,e];simp),fun k hk=>by
                simp at hk;subst hk
                have:=(h.own ob k (by rw [h4];simp)).2
                exact ⟨.inl (by rw [h4];simp),by simpa using this⟩,?_,?_⟩
            · refine ⟨hes,hmax,by simpa using hroom,.inr ⟨b,_,rfl,rfl,setRow_heap w b _ _ e _ h5,?_,?_⟩⟩
              · simp only [List.size_toArray,List.length_append,List.length_take,List.length_drop,Array.length_toList]
                omega
              · have:=rowsAt_append (X:=⟨w,G.S⟩) (arr:=(arr.toList.take (rows.length * i.size)++nvs++arr.toList.drop (rows.length * i.size+nvs.length)).toArray) (es:=i.size) (rows:=rows) (news:=news) (olds:=olds) (nvs:=nvs) hol k1
                  (by rw [htk]
                      show List.take _ (olds++nvs++_)=_
                      rw [show (rows.length+news.length) * i.size=(olds++nvs).length from by rw [List.length_append,hol,k1,Nat.add_mul]]
                      exact List.take_left) ho4 k4
                intro q row hrow
                refine ⟨(this q row hrow).1,fun j p hp=>?_⟩
                obtain ⟨u,hu,hpu⟩:=(this q row hrow).2 j p hp
                exact ⟨u,hu,p.mono hle hpu⟩
            · exact ⟨some b,c,mu_new hlen,by simpa using hroom,by simp⟩
    · have hb':(m.map (fun b=>(⟨b,0,none⟩:Addr))=none∧rows.length=0∧c=0∧olds=[])∨∃ b,m.map (fun b=>(⟨b,0,none⟩:Addr))=some b∧olds.length=rows.length * es∧rows.length≤c∧∀ j u,olds[j]?=some u→w.cell? (b.add j)=some u:=by
        rcases hb with ⟨rfl,q⟩ | ⟨b,rfl,q⟩
        · exact .inl ⟨rfl,q⟩
        · exact .inr ⟨_,rfl,q⟩
      obtain ⟨cap',arr,hr,g1,g2,g3,g4⟩:=app_fresh (ty:=o.type) hT he hz hzl (w:=w) (src:=base) (m:=news.length) (c:=cap) (news:=nvs) hb' k1 k2 (by omega) h63 hby
      refine ⟨.slice (some ⟨w.heap.size,0,none⟩) (rows.length+news.length) cap',w.drew.alloc (.cells arr e),(some w.heap.size,cap'),[w.heap.size],by
        simp only [execOp,ho,resolve,invoke,builtin,Sem.run_bind,Sem.run_pure,Result.andThen_ok,List.map_toArray,List.map_cons,List.map_nil,p3,h1,hr],rfl,.same,rfl,by simp,fun k hk _=>Below.heap_alloc w.drew _ k hk,by simp,?_,?_⟩
      · refine ⟨hes,g2,by simpa using g1,.inr ⟨w.heap.size,arr,rfl,rfl,heap_alloc_new w.drew _,g3,?_⟩⟩
        have:=rowsAt_append (X:=⟨w,G.S⟩) (arr:=arr) (es:=es) (rows:=rows) (news:=news) (olds:=olds) (nvs:=nvs) hol k1 g4 ho4 k4
        intro i row hrow
        refine ⟨(this i row hrow).1,fun j p hp=>?_⟩
        obtain ⟨u,hu,hpu⟩:=(this i row hrow).2 j p hp
        exact ⟨u,hu,p.mono (wle_drew_alloc (fun b hb=>(h.sbd b hb).1) _) hpu⟩
      · exact ⟨some w.heap.size,cap',mu_new hlen,by simpa using g1,by simp⟩
end append
end ops
end Go.Aw
/- THE ABSTRACT WALK, part 7: the steps in the form in which walks take them; contracts as instances. -/
namespace Go.Aw
open Go Go.RowKit
set_option linter.unusedVariables false
set_option linter.unusedSimpArgs false
class PC (P:Program) (f:FuncId) (args:List AV) (pre:outParam Prop) (r:outParam AV):Prop where
  call:pre→PCall P f args r
class PureAV (a:AV):Prop where
  pure:Ent a a
instance {x:PVal}:PureAV (.p x):=⟨Ent.p⟩
class PureL (cs:List AC):Prop where
  pure:∀ c∈cs,c.isP=true
instance:PureL []:=⟨by simp⟩
instance {x:PVal} {cs:List AC} [h:PureL cs]:PureL (.p x::cs):=⟨by intro c hc;simp at hc;rcases hc with rfl|hc;rfl;exact h.pure c hc⟩
instance {α:Type} {l:List α} {f:α→PVal}:PureL (l.map fun x=>.p (f x)):=⟨by intro c hc;simp at hc;obtain ⟨x,_,rfl⟩:=hc;rfl⟩
instance {cs ds:List AC} [h:PureL cs] [k:PureL ds]:PureL (cs++ds):=⟨by intro c hc;simp at hc;rcases hc with hc|hc;exact h.pure c hc;exact k.pure c hc⟩
instance {cs:List AC} [h:PureL cs]:PureAV (.a cs):=⟨Ent.agg h.pure⟩
class PureAVs (l:List AV):Prop where
  pure:All2 Ent l l
instance:PureAVs []:=⟨.nil⟩
instance {a:AV} {l:List AV} [h:PureAV a] [k:PureAVs l]:PureAVs (a::l):=⟨.cons h.pure k.pure⟩
section steps
variable {C:Ctx} {ops:Array Oper} {o:Oper} {rest:List Oper} {K:St→Prop} {σ:St} {e:Eff} {ro:Nat→Bool}
theorem rn_nil (h:K σ):RunN C ops [] K σ:=h
theorem rn_gf {j t:Nat} {want b:Bool} (hg:o.guard=some (j,want)) (ht:(ops[j]?).bind (·.dst)=some t) (hv:σ.env t=.p (.v (.bool b))) {d:Nat} (hb:b=!want) (hdd:o.dst=some d) (hd:dOk C o.dst=true) (hk:RunN C ops rest K (σ.set (some d) (.tup []))):RunN C ops (o::rest) K σ:=by
  rw [← hdd] at hk;exact .inr ⟨by unfold Guard;rw [hg];exact ⟨t,ht,.inl ⟨b,hv,by cases want<;>simp [hb]⟩⟩,hd,hk⟩
theorem rn_gu {j t:Nat} {want:Bool} {d:Nat} (hg:o.guard=some (j,want)) (ht:(ops[j]?).bind (·.dst)=some t) (hv:σ.env t=.tup []) (hdd:o.dst=some d) (hd:dOk C o.dst=true) (hk:RunN C ops rest K (σ.set (some d) (.tup []))):RunN C ops (o::rest) K σ:=by
  rw [← hdd] at hk;exact .inr ⟨by unfold Guard;rw [hg];exact ⟨t,ht,.inr ⟨hv,rfl⟩⟩,hd,hk⟩
theorem rn_split {j t:Nat} {want b:Bool} (hg:o.guard=some (j,want)) (ht:(ops[j]?).bind (·.dst)=some t) (hv:σ.env t=.p (.v (.bool b))) (h1:b=true→RunN C ops (o::rest) K σ) (h2:b=false→RunN C ops (o::rest) K σ):RunN C ops (o::rest) K σ:=by
  cases b with
  | true=>exact h1 rfl
  | false=>exact h2 rfl
theorem aws_nil {Q:Exit→St→Prop} (h:Q .normal σ):AWs C [] Q σ:=h
theorem aws_blk_s {x y:Code} {k:List Code} {Q:Exit→St→Prop} {id:Nat} (h:AWs C [x,y] (blk id (AWs C k Q) Q) σ):AWs C (.block id (.seq x y)::k) Q σ:=aws_block (aws_seq h)
theorem aws_blk_r {i:Nat} {l:Array Oper} {b:Bool} {k:List Code} {Q:Exit→St→Prop} {id:Nat} (h:AWs C [.region i l b] (blk id (AWs C k Q) Q) σ):AWs C (.block id (.region i l b)::k) Q σ:=aws_block h
theorem aws_blk_c {x y:Code} {o:Operand} {k:List Code} {Q:Exit→St→Prop} {id:Nat} (h:AWs C [.cond o x y] (blk id (AWs C k Q) Q) σ):AWs C (.block id (.cond o x y)::k) Q σ:=aws_block h
theorem aws_if {cd:Operand} {x y:Code} {k:List Code} {Q:Exit→St→Prop} {b:Bool} (hv:σ.look cd=.p (.v (.bool b))) (h1:b=true→AWs C (x::k) Q σ) (h2:b=false→AWs C (y::k) Q σ):AWs C (.cond cd x y::k) Q σ:=
  aws_cond (fun G a w h=>val_of h hv) h1 h2
theorem aws_if_t {cd:Operand} {x y:Code} {k:List Code} {Q:Exit→St→Prop} {b:Bool} (hv:σ.look cd=.p (.v (.bool b))) (hb:b=true) (h1:AWs C (x::k) Q σ):AWs C (.cond cd x y::k) Q σ:=
  aws_if hv (fun _=>h1) (fun h=>by rw [hb] at h;cases h)
theorem aws_if_f {cd:Operand} {x y:Code} {k:List Code} {Q:Exit→St→Prop} {b:Bool} (hv:σ.look cd=.p (.v (.bool b))) (hb:b=false) (h1:AWs C (y::k) Q σ):AWs C (.cond cd x y::k) Q σ:=
  aws_if hv (fun h=>by rw [hb] at h;cases h) (fun _=>h1)
theorem gd_n {r:Bool} (hg:o.guard=none) (hr:r=true):Guard ops σ o r:=by unfold Guard;rw [hg];exact hr
theorem gd_t {j t:Nat} {want b:Bool} (hg:o.guard=some (j,want)) (ht:(ops[j]?).bind (·.dst)=some t) (hv:σ.env t=.p (.v (.bool b))) (hb:b=want):Guard ops σ o true:=by
  unfold Guard;rw [hg];exact ⟨t,ht,.inl ⟨b,hv,by simp [hb]⟩⟩
theorem rn_any {d:Nat} (hg:Guard ops σ o true) (hd:o.dst=some d) (h:LOp C o σ e ro) (hk:RunN C ops rest K (e.app (some d) σ)):RunN C ops (o::rest) K σ:=by rw [← hd] at hk;exact .inl ⟨hg,_,h.ok,hk⟩
theorem rn_sto (hg:Guard ops σ o true) (hd:o.dst=none) (h:LOp C o σ e ro) (hk:RunN C ops rest K (e.app none σ)):RunN C ops (o::rest) K σ:=by rw [← hd] at hk;exact .inl ⟨hg,_,h.ok,hk⟩
theorem lk_o {x:Operand} {c:AC} (h:σ.look x=.s (.one c)):σ.look x=.s (.one c):=h
theorem lk_a {x:Operand} {c:List AC} (h:σ.look x=.s (.agg c)):σ.look x=.s (.agg c):=h
theorem lop_calln {f:FuncId} {as:Array Operand} {ts:Array TypeId} {args:List AV} {r:AV} {pre:Prop} (ho:o.op=.call ⟨.value (.func f),as,ts⟩) (hfn:FnT C.P f) (ha:All2 (fun x a=>σ.look x=a) as.toList args) (hp:PureAVs args) (hc:PC C.P f args pre r) (hpre:pre) (hd:dOk C o.dst=true) :
    LOp C o σ ⟨r,[]⟩ (fun _=>false):=by
  refine lop_call ho (args:=args) ?_ (hc.call hpre) hd
  refine ⟨by simp [ha.1],fun i a b h1 h2=>?_⟩
  rw [List.getElem?_map] at h1
  cases hx:as.toList[i]? with
  | none=>rw [hx] at h1;cases h1
  | some x=>
    rw [hx] at h1;simp at h1;subst h1
    rw [ha.2 i x b hx h2]
    exact hp.pure.2 i b b h2 h2
theorem lop_buildx {T:TypeId} {parts:Array (Nat × Operand)} {fs:List (Nat × Nat)} {z:List Value} {ps:List (Nat × List AC)} {cs:List AC} (ho:o.op=.build T parts) (hF:TF C.P T fs) (hz:TZ C.P T z)
    (hp:All2 (fun (x:Nat × Operand) (p:Nat × List AC)=>x.1=p.1∧∃ s,σ.look x.2=.s s∧s.cells=p.2) parts.toList ps) (h1:z.all (·.oneCell')=true)
    (hb:bfill (fun i=>fs[i]?) (z.map fun v=>.p (.v v)) ps=some cs) (hd:dOk C o.dst=true):LOp C o σ ⟨.a cs,[]⟩ (fun _=>false):=lop_build ho hp h1 hb hd
theorem lk_a2 {x:Operand} {c0 c1:AC} (h:σ.look x=.s (.agg [c0,c1])):σ.look x=.s (.agg [c0,c1]):=h
theorem lk_a4 {x:Operand} {c0 c1 c2 c3:AC} (h:σ.look x=.s (.agg [c0,c1,c2,c3])):σ.look x=.s (.agg [c0,c1,c2,c3]):=h
theorem lk_a8 {x:Operand} {c0 c1 c2 c3 c4 c5 c6 c7:AC} (h:σ.look x=.s (.agg [c0,c1,c2,c3,c4,c5,c6,c7])):σ.look x=.s (.agg [c0,c1,c2,c3,c4,c5,c6,c7]):=h
theorem ln1 {x:List AC} {c0:AC} (h:x=[c0]):x=[c0]:=h
theorem sn1 {x:Option (List AC)} {c0:AC} (h:x=some [c0]):x=some [c0]:=h
theorem sn2 {x:Option (List AC)} {c0 c1:AC} (h:x=some [c0,c1]):x=some [c0,c1]:=h
theorem ln4 {x:List AC} {c0 c1 c2 c3:AC} (h:x=[c0,c1,c2,c3]):x=[c0,c1,c2,c3]:=h
theorem sn4 {x:Option (List AC)} {c0 c1 c2 c3:AC} (h:x=some [c0,c1,c2,c3]):x=some [c0,c1,c2,c3]:=h
theorem sn8 {x:Option (List AC)} {c0 c1 c2 c3 c4 c5 c6 c7:AC} (h:x=some [c0,c1,c2,c3,c4,c5,c6,c7]):x=some [c0,c1,c2,c3,c4,c5,c6,c7]:=h
theorem ln9 {x:List AC} {c0 c1 c2 c3 c4 c5 c6 c7 c8:AC} (h:x=[c0,c1,c2,c3,c4,c5,c6,c7,c8]):x=[c0,c1,c2,c3,c4,c5,c6,c7,c8]:=h
theorem sn9 {x:Option (List AC)} {c0 c1 c2 c3 c4 c5 c6 c7 c8:AC} (h:x=some [c0,c1,c2,c3,c4,c5,c6,c7,c8]):x=some [c0,c1,c2,c3,c4,c5,c6,c7,c8]:=h
theorem sn10 {x:Option (List AC)} {c0 c1 c2 c3 c4 c5 c6 c7 c8 c9:AC} (h:x=some [c0,c1,c2,c3,c4,c5,c6,c7,c8,c9]):x=some [c0,c1,c2,c3,c4,c5,c6,c7,c8,c9]:=h
theorem ln11 {x:List AC} {c0 c1 c2 c3 c4 c5 c6 c7 c8 c9 c10:AC} (h:x=[c0,c1,c2,c3,c4,c5,c6,c7,c8,c9,c10]):x=[c0,c1,c2,c3,c4,c5,c6,c7,c8,c9,c10]:=h
theorem sn11 {x:Option (List AC)} {c0 c1 c2 c3 c4 c5 c6 c7 c8 c9 c10:AC} (h:x=some [c0,c1,c2,c3,c4,c5,c6,c7,c8,c9,c10]):x=some [c0,c1,c2,c3,c4,c5,c6,c7,c8,c9,c10]:=h
theorem lop_store_x {T:TypeId} {x y:Operand} {k:TK} {sz by_:Nat} {ob g off n:Nat} {ty:TypeId} {cs ds:List AC} {c:AC} (ho:o.op=.store T x y) (hT:TI C.P T k sz by_) (hdst:o.dst=none) (hx:σ.look x=.o (.ptr ob g off)) (hy:σ.look y=.o c)
    (hm:σ.mem ob=(n,some (.box ty cs))) (hn:n=g+1) (hs:sz=1) (hl:off < cs.length) (hds:cs.set off c=ds) :
    LOp C o σ ⟨.un,[(ob,(n,some (.box ty ds)))]⟩ (fun z=>z == ob):=by subst hds;exact lop_store_one ho hdst hx hy hm hn hl hs
theorem lop_call0 {f:FuncId} {ts:Array TypeId} { r:AV} {pre:Prop} (ho:o.op=.call ⟨.value (.func f),#[],ts⟩) (hfn:FnT C.P f)  (hp:PureAVs []) (hc:PC C.P f [] pre r) (hpre:pre) (hd:dOk C o.dst=true) :
    LOp C o σ ⟨r,[]⟩ (fun _=>false):=lop_calln ho hfn (.nil) hp hc hpre hd
theorem lop_call1 {f:FuncId} {x0:Operand} {ts:Array TypeId} {a0 r:AV} {pre:Prop} (ho:o.op=.call ⟨.value (.func f),#[x0],ts⟩) (hfn:FnT C.P f) (h0:σ.look x0=a0) (hp:PureAVs [a0]) (hc:PC C.P f [a0] pre r) (hpre:pre) (hd:dOk C o.dst=true) :
    LOp C o σ ⟨r,[]⟩ (fun _=>false):=lop_calln ho hfn (.cons h0 (.nil)) hp hc hpre hd
theorem lop_call2 {f:FuncId} {x0 x1:Operand} {ts:Array TypeId} {a0 a1 r:AV} {pre:Prop} (ho:o.op=.call ⟨.value (.func f),#[x0,x1],ts⟩) (hfn:FnT C.P f) (h0:σ.look x0=a0) (h1:σ.look x1=a1) (hp:PureAVs [a0,a1]) (hc:PC C.P f [a0,a1] pre r) (hpre:pre) (hd:dOk C o.dst=true) :
    LOp C o σ ⟨r,[]⟩ (fun _=>false):=lop_calln ho hfn (.cons h0 (.cons h1 (.nil))) hp hc hpre hd
theorem lop_call3 {f:FuncId} {x0 x1 x2:Operand} {ts:Array TypeId} {a0 a1 a2 r:AV} {pre:Prop} (ho:o.op=.call ⟨.value (.func f),#[x0,x1,x2],ts⟩) (hfn:FnT C.P f) (h0:σ.look x0=a0) (h1:σ.look x1=a1) (h2:σ.look x2=a2) (hp:PureAVs [a0,a1,a2]) (hc:PC C.P f [a0,a1,a2] pre r) (hpre:pre) (hd:dOk C o.dst=true) :
    LOp C o σ ⟨r,[]⟩ (fun _=>false):=lop_calln ho hfn (.cons h0 (.cons h1 (.cons h2 (.nil)))) hp hc hpre hd
theorem lop_call4 {f:FuncId} {x0 x1 x2 x3:Operand} {ts:Array TypeId} {a0 a1 a2 a3 r:AV} {pre:Prop} (ho:o.op=.call ⟨.value (.func f),#[x0,x1,x2,x3],ts⟩) (hfn:FnT C.P f) (h0:σ.look x0=a0) (h1:σ.look x1=a1) (h2:σ.look x2=a2) (h3:σ.look x3=a3) (hp:PureAVs [a0,a1,a2,a3]) (hc:PC C.P f [a0,a1,a2,a3] pre r) (hpre:pre) (hd:dOk C o.dst=true) :
    LOp C o σ ⟨r,[]⟩ (fun _=>false):=lop_calln ho hfn (.cons h0 (.cons h1 (.cons h2 (.cons h3 (.nil))))) hp hc hpre hd
theorem lop_call6 {f:FuncId} {x0 x1 x2 x3 x4 x5:Operand} {ts:Array TypeId} {a0 a1 a2 a3 a4 a5 r:AV} {pre:Prop} (ho:o.op=.call ⟨.value (.func f),#[x0,x1,x2,x3,x4,x5],ts⟩) (hfn:FnT C.P f) (h0:σ.look x0=a0) (h1:σ.look x1=a1) (h2:σ.look x2=a2) (h3:σ.look x3=a3) (h4:σ.look x4=a4) (h5:σ.look x5=a5) (hp:PureAVs [a0,a1,a2,a3,a4,a5]) (hc:PC C.P f [a0,a1,a2,a3,a4,a5] pre r) (hpre:pre) (hd:dOk C o.dst=true) :
    LOp C o σ ⟨r,[]⟩ (fun _=>false):=lop_calln ho hfn (.cons h0 (.cons h1 (.cons h2 (.cons h3 (.cons h4 (.cons h5 (.nil))))))) hp hc hpre hd
theorem lop_build0 {T:TypeId} {fs:List (Nat × Nat)} {z:List Value} {cs:List AC} (ho:o.op=.build T #[]) (hF:TF C.P T fs) (hz:TZ C.P T z)  (h1:z.all (·.oneCell')=true)
    (hb:bfill (fun i=>fs[i]?) (z.map fun v=>.p (.v v)) []=some cs) (hd:dOk C o.dst=true):LOp C o σ ⟨.a cs,[]⟩ (fun _=>false):=lop_buildx ho hF hz (.nil) h1 hb hd
theorem lop_build1 {T:TypeId} {k0:Nat} {x0:Operand} {s0:SV} {fs:List (Nat × Nat)} {z:List Value} {cs:List AC} (ho:o.op=.build T #[(k0,x0)]) (hF:TF C.P T fs) (hz:TZ C.P T z) (g0:σ.look x0=.s s0) (h1:z.all (·.oneCell')=true)
    (hb:bfill (fun i=>fs[i]?) (z.map fun v=>.p (.v v)) [(k0,s0.cells)]=some cs) (hd:dOk C o.dst=true):LOp C o σ ⟨.a cs,[]⟩ (fun _=>false):=lop_buildx ho hF hz (.cons ⟨rfl,_,g0,rfl⟩ (.nil)) h1 hb hd
theorem lop_build2 {T:TypeId} {k0 k1:Nat} {x0 x1:Operand} {s0 s1:SV} {fs:List (Nat × Nat)} {z:List Value} {cs:List AC} (ho:o.op=.build T #[(k0,x0),(k1,x1)]) (hF:TF C.P T fs) (hz:TZ C.P T z) (g0:σ.look x0=.s s0) (g1:σ.look x1=.s s1) (h1:z.all (·.oneCell')=true)
    (hb:bfill (fun i=>fs[i]?) (z.map fun v=>.p (.v v)) [(k0,s0.cells),(k1,s1.cells)]=some cs) (hd:dOk C o.dst=true):LOp C o σ ⟨.a cs,[]⟩ (fun _=>false):=lop_buildx ho hF hz (.cons ⟨rfl,_,g0,rfl⟩ (.cons ⟨rfl,_,g1,rfl⟩ (.nil))) h1 hb hd
theorem lop_build3 {T:TypeId} {k0 k1 k2:Nat} {x0 x1 x2:Operand} {s0 s1 s2:SV} {fs:List (Nat × Nat)} {z:List Value} {cs:List AC} (ho:o.op=.build T #[(k0,x0),(k1,x1),(k2,x2)]) (hF:TF C.P T fs) (hz:TZ C.P T z) (g0:σ.look x0=.s s0) (g1:σ.look x1=.s s1) (g2:σ.look x2=.s s2) (h1:z.all (·.oneCell')=true)
    (hb:bfill (fun i=>fs[i]?) (z.map fun v=>.p (.v v)) [(k0,s0.cells),(k1,s1.cells),(k2,s2.cells)]=some cs) (hd:dOk C o.dst=true):LOp C o σ ⟨.a cs,[]⟩ (fun _=>false):=lop_buildx ho hF hz (.cons ⟨rfl,_,g0,rfl⟩ (.cons ⟨rfl,_,g1,rfl⟩ (.cons ⟨rfl,_,g2,rfl⟩ (.nil)))) h1 hb hd
theorem lop_build4 {T:TypeId} {k0 k1 k2 k3:Nat} {x0 x1 x2 x3:Operand} {s0 s1 s2 s3:SV} {fs:List (Nat × Nat)} {z:List Value} {cs:List AC} (ho:o.op=.build T #[(k0,x0),(k1,x1),(k2,x2),(k3,x3)]) (hF:TF C.P T fs) (hz:TZ C.P T z) (g0:σ.look x0=.s s0) (g1:σ.look x1=.s s1) (g2:σ.look x2=.s s2) (g3:σ.look x3=.s s3) (h1:z.all (·.oneCell')=true)
    (hb:bfill (fun i=>fs[i]?) (z.map fun v=>.p (.v v)) [(k0,s0.cells),(k1,s1.cells),(k2,s2.cells),(k3,s3.cells)]=some cs) (hd:dOk C o.dst=true):LOp C o σ ⟨.a cs,[]⟩ (fun _=>false):=lop_buildx ho hF hz (.cons ⟨rfl,_,g0,rfl⟩ (.cons ⟨rfl,_,g1,rfl⟩ (.cons ⟨rfl,_,g2,rfl⟩ (.cons ⟨rfl,_,g3,rfl⟩ (.nil))))) h1 hb hd
theorem lop_build5 {T:TypeId} {k0 k1 k2 k3 k4:Nat} {x0 x1 x2 x3 x4:Operand} {s0 s1 s2 s3 s4:SV} {fs:List (Nat × Nat)} {z:List Value} {cs:List AC} (ho:o.op=.build T #[(k0,x0),(k1,x1),(k2,x2),(k3,x3),(k4,x4)]) (hF:TF C.P T fs) (hz:TZ C.P T z) (g0:σ.look x0=.s s0) (g1:σ.look x1=.s s1) (g2:σ.look x2=.s s2) (g3:σ.look x3=.s s3) (g4:σ.look x4=.s s4) (h1:z.all (·.oneCell')=true)
    (hb:bfill (fun i=>fs[i]?) (z.map fun v=>.p (.v v)) [(k0,s0.cells),(k1,s1.cells),(k2,s2.cells),(k3,s3.cells),(k4,s4.cells)]=some cs) (hd:dOk C o.dst=true):LOp C o σ ⟨.a cs,[]⟩ (fun _=>false):=lop_buildx ho hF hz (.cons ⟨rfl,_,g0,rfl⟩ (.cons ⟨rfl,_,g1,rfl⟩ (.cons ⟨rfl,_,g2,rfl⟩ (.cons ⟨rfl,_,g3,rfl⟩ (.cons ⟨rfl,_,g4,rfl⟩ (.nil)))))) h1 hb hd
theorem lop_build6 {T:TypeId} {k0 k1 k2 k3 k4 k5:Nat} {x0 x1 x2 x3 x4 x5:Operand} {s0 s1 s2 s3 s4 s5:SV} {fs:List (Nat × Nat)} {z:List Value} {cs:List AC} (ho:o.op=.build T #[(k0,x0),(k1,x1),(k2,x2),(k3,x3),(k4,x4),(k5,x5)]) (hF:TF C.P T fs) (hz:TZ C.P T z) (g0:σ.look x0=.s s0) (g1:σ.look x1=.s s1) (g2:σ.look x2=.s s2) (g3:σ.look x3=.s s3) (g4:σ.look x4=.s s4) (g5:σ.look x5=.s s5) (h1:z.all (·.oneCell')=true)
    (hb:bfill (fun i=>fs[i]?) (z.map fun v=>.p (.v v)) [(k0,s0.cells),(k1,s1.cells),(k2,s2.cells),(k3,s3.cells),(k4,s4.cells),(k5,s5.cells)]=some cs) (hd:dOk C o.dst=true):LOp C o σ ⟨.a cs,[]⟩ (fun _=>false):=lop_buildx ho hF hz (.cons ⟨rfl,_,g0,rfl⟩ (.cons ⟨rfl,_,g1,rfl⟩ (.cons ⟨rfl,_,g2,rfl⟩ (.cons ⟨rfl,_,g3,rfl⟩ (.cons ⟨rfl,_,g4,rfl⟩ (.cons ⟨rfl,_,g5,rfl⟩ (.nil))))))) h1 hb hd
theorem lop_build7 {T:TypeId} {k0 k1 k2 k3 k4 k5 k6:Nat} {x0 x1 x2 x3 x4 x5 x6:Operand} {s0 s1 s2 s3 s4 s5 s6:SV} {fs:List (Nat × Nat)} {z:List Value} {cs:List AC} (ho:o.op=.build T #[(k0,x0),(k1,x1),(k2,x2),(k3,x3),(k4,x4),(k5,x5),(k6,x6)]) (hF:TF C.P T fs) (hz:TZ C.P T z) (g0:σ.look x0=.s s0) (g1:σ.look x1=.s s1) (g2:σ.look x2=.s s2) (g3:σ.look x3=.s s3) (g4:σ.look x4=.s s4) (g5:σ.look x5=.s s5) (g6:σ.look x6=.s s6) (h1:z.all (·.oneCell')=true)
    (hb:bfill (fun i=>fs[i]?) (z.map fun v=>.p (.v v)) [(k0,s0.cells),(k1,s1.cells),(k2,s2.cells),(k3,s3.cells),(k4,s4.cells),(k5,s5.cells),(k6,s6.cells)]=some cs) (hd:dOk C o.dst=true):LOp C o σ ⟨.a cs,[]⟩ (fun _=>false):=lop_buildx ho hF hz (.cons ⟨rfl,_,g0,rfl⟩ (.cons ⟨rfl,_,g1,rfl⟩ (.cons ⟨rfl,_,g2,rfl⟩ (.cons ⟨rfl,_,g3,rfl⟩ (.cons ⟨rfl,_,g4,rfl⟩ (.cons ⟨rfl,_,g5,rfl⟩ (.cons ⟨rfl,_,g6,rfl⟩ (.nil)))))))) h1 hb hd
theorem lop_move_o {x:Operand} {c:AC} (ho:o.op=.move x) (hx:σ.look x=.s (.one c)) (hd:dOk C o.dst=true):LOp C o σ ⟨.s (.one c),[]⟩ (fun _=>false):=lop_move ho hx hd
theorem lop_move_t {x:Operand} {c:List SV} (ho:o.op=.move x) (hx:σ.look x=.tup c) (hd:dOk C o.dst=true):LOp C o σ ⟨.tup c,[]⟩ (fun _=>false):=lop_move ho hx hd
theorem lop_assign_o {x:Operand} {c:AC} (ho:o.op=.assign x) (hx:σ.look x=.s (.one c)) (hd:dOk C o.dst=true):LOp C o σ ⟨.s (.one c),[]⟩ (fun _=>false):=lop_assign ho hx hd
theorem lop_pick_t' {c x y:Operand} {b:Bool} {q:AC} (ho:o.op=.pick c x y) (hc:σ.look c=.p (.v (.bool b))) (hb:b=true) (hx:σ.look x=.s (.one q)) (hd:dOk C o.dst=true):LOp C o σ ⟨.s (.one q),[]⟩ (fun _=>false):=lop_pick_t ho hc hb hx hd
theorem lop_pick_f' {c x y:Operand} {b:Bool} {q:AC} (ho:o.op=.pick c x y) (hc:σ.look c=.p (.v (.bool b))) (hb:b=false) (hx:σ.look y=.s (.one q)) (hd:dOk C o.dst=true):LOp C o σ ⟨.s (.one q),[]⟩ (fun _=>false):=lop_pick_f ho hc hb hx hd
theorem lop_extract_o {x:Operand} {ix:Nat} {vs:List SV} {c:AC} (ho:o.op=.extract x ix) (hx:σ.look x=.tup vs) (hs:vs[ix]?=some (.one c)) (hd:dOk C o.dst=true):LOp C o σ ⟨.s (.one c),[]⟩ (fun _=>false):=lop_extract ho hx hs hd
theorem lop_extract_a {x:Operand} {ix:Nat} {vs:List SV} {c:List AC} (ho:o.op=.extract x ix) (hx:σ.look x=.tup vs) (hs:vs[ix]?=some (.agg c)) (hd:dOk C o.dst=true):LOp C o σ ⟨.s (.agg c),[]⟩ (fun _=>false):=lop_extract ho hx hs hd
theorem lop_box_a {T:TypeId} {x:Operand} {d n:Nat} {mo0:Option MO} {c:List AC} (ho:o.op=.box T x) (hdst:o.dst=some d) (hx:σ.look x=.s (.agg c)) (hm:σ.mem d=(n,mo0)) (hd:dOk C o.dst=true) :
    LOp C o σ ⟨.o (.ptr d n 0),[(d,(n+1,some (.box T c)))]⟩ (fun y=>y == d):=lop_box ho hdst hx hm hd
theorem lop_box_o {T:TypeId} {x:Operand} {d n:Nat} {mo0:Option MO} {c:AC} (ho:o.op=.box T x) (hdst:o.dst=some d) (hx:σ.look x=.s (.one c)) (hm:σ.mem d=(n,mo0)) (hd:dOk C o.dst=true) :
    LOp C o σ ⟨.o (.ptr d n 0),[(d,(n+1,some (.box T [c])))]⟩ (fun y=>y == d):=lop_box ho hdst hx hm hd
theorem rb {x y:Bool} (h:x=y):AV.p (.v (.bool x))=.s (.one (.p (.v (.bool y)))):=by rw [h]
theorem ri {x y:Int} {k:IntKind} (h:x=y):AV.p (.v (.int k x))=.s (.one (.p (.v (.int k y)))):=by rw [h]
/-! in a region that draws -/
variable {W:List (Nat × Nat)} {i:Nat}
theorem rk_nil (h:K σ):RunK C ops W i [] K σ:=h
theorem rk_gf {j t:Nat} {want b:Bool} (hg:o.guard=some (j,want)) (ht:(ops[j]?).bind (·.dst)=some t) (hv:σ.env t=.p (.v (.bool b))) {d:Nat} (hb:b=!want) (hdd:o.dst=some d) (hd:dOk C o.dst=true) (hk:RunK C ops W (i+1) rest K (σ.set (some d) (.tup []))):RunK C ops W i (o::rest) K σ:=by
  rw [← hdd] at hk;exact ⟨⟨.tup [],[]⟩,.inr ⟨by unfold Guard;rw [hg];exact ⟨t,ht,.inl ⟨b,hv,by cases want<;>simp [hb]⟩⟩,hd,rfl⟩,hk⟩
theorem rk_gu {j t:Nat} {want:Bool} {d:Nat} (hg:o.guard=some (j,want)) (ht:(ops[j]?).bind (·.dst)=some t) (hv:σ.env t=.tup []) (hdd:o.dst=some d) (hd:dOk C o.dst=true) (hk:RunK C ops W (i+1) rest K (σ.set (some d) (.tup []))):RunK C ops W i (o::rest) K σ:=by
  rw [← hdd] at hk;exact ⟨⟨.tup [],[]⟩,.inr ⟨by unfold Guard;rw [hg];exact ⟨t,ht,.inr ⟨hv,rfl⟩⟩,hd,rfl⟩,hk⟩
theorem rk_split {j t:Nat} {want b:Bool} (hg:o.guard=some (j,want)) (ht:(ops[j]?).bind (·.dst)=some t) (hv:σ.env t=.p (.v (.bool b))) (h1:b=true→RunK C ops W i (o::rest) K σ) (h2:b=false→RunK C ops W i (o::rest) K σ):RunK C ops W i (o::rest) K σ:=by
  cases b with
  | true=>exact h1 rfl
  | false=>exact h2 rfl
end steps
def ResL (P:Program) (fn:Func) (σ:St) (K:Nat→Bool) (r:AV):Prop:=∃ l,r=resAV l∧All2 (Res P σ K) fn.results.toList l
theorem Ret.of {P:Program} {fn:Func} {r:AV} {σ:St} (h:ResL P fn σ kNone r):Ret P fn r .ret σ:=h
section rets
variable {P:Program} {fn:Func} {r:AV} {σ:St} {s s' u u':SV} {t t' ty ty' ty1 o g n sz by_:Nat} {k:TK} {cs ds:List AC} {K:Nat→Bool}
theorem res0 (hf:fn.results.toList=[]) (hr:r=.tup []):ResL P fn σ K r:=⟨[],hr,by rw [hf];exact .nil⟩
theorem res1 {rv:ResultVar} (hf:fn.results.toList=[rv]) (hr:r=.s s) (h:Res P σ K rv s):ResL P fn σ K r:=⟨[s],hr,by rw [hf];exact .cons h .nil⟩
theorem res2 {rv rv':ResultVar} (hf:fn.results.toList=[rv,rv']) (hr:r=.tup [s,s']) (h:Res P σ K rv s) (h':Res P σ K rv' s'):ResL P fn σ K r:=⟨[s,s'],hr,by rw [hf];exact .cons h (.cons h' .nil)⟩
theorem ot1 (hf:fn.results.toList=[.tmp t]) (hv:σ.env t=.s s) (hs:FinS σ K s s') (hr:r=.s s'):ResL P fn σ K r:=res1 hf hr (.tmp hv hs)
theorem oc1 [hT:TI P ty k sz by_] (hf:fn.results.toList=[.cell t ty]) (hv:σ.env t=.o (.ptr o g 0)) (hm:σ.mem o=(n,some (.box ty1 cs))) (hn:n=g+1) (hk:k.agg=true) (hl:cs.length=sz) (hs:All2 (FinC σ K) cs ds) (hr:r=.a ds):ResL P fn σ K r:=by
  subst hn;exact res1 hf hr (.cell hv hm hT hk hl hs)
theorem ot2 (hf:fn.results.toList=[.tmp t,.tmp t']) (hv:σ.env t=.s s) (hs:FinS σ K s s') (hv':σ.env t'=.s u) (hs':FinS σ K u u') (hr:r=.tup [s',u']):ResL P fn σ K r:=res2 hf hr (.tmp hv hs) (.tmp hv' hs')
theorem oc2 [hT:TI P ty k sz by_] (hf:fn.results.toList=[.cell t ty,.tmp t']) (hv:σ.env t=.o (.ptr o g 0)) (hm:σ.mem o=(n,some (.box ty1 cs))) (hn:n=g+1) (hk:k.agg=true) (hl:cs.length=sz) (hs:All2 (FinC σ K) cs ds) (hv':σ.env t'=.s u) (hs':FinS σ K u u') (hr:r=.tup [.agg ds,u']):ResL P fn σ K r:=by
  subst hn;exact res2 hf hr (.cell hv hm hT hk hl hs) (.tmp hv' hs')
theorem rt1 (hf:fn.results.toList=[.tmp t]) (hv:σ.env t=.s s) (hs:FinS σ kNone s s') (hr:r=.s s'):Ret P fn r .ret σ:=ot1 hf hv hs hr
theorem rc1 [hT:TI P ty k sz by_] (hf:fn.results.toList=[.cell t ty]) (hv:σ.env t=.o (.ptr o g 0)) (hm:σ.mem o=(n,some (.box ty1 cs))) (hn:n=g+1) (hk:k.agg=true) (hl:cs.length=sz) (hs:All2 (FinC σ kNone) cs ds) (hr:r=.a ds):Ret P fn r .ret σ:=oc1 hf hv hm hn hk hl hs hr
theorem rt2 (hf:fn.results.toList=[.tmp t,.tmp t']) (hv:σ.env t=.s s) (hs:FinS σ kNone s s') (hv':σ.env t'=.s u) (hs':FinS σ kNone u u') (hr:r=.tup [s',u']):Ret P fn r .ret σ:=ot2 hf hv hs hv' hs' hr
theorem rc2 [hT:TI P ty k sz by_] (hf:fn.results.toList=[.cell t ty,.tmp t']) (hv:σ.env t=.o (.ptr o g 0)) (hm:σ.mem o=(n,some (.box ty1 cs))) (hn:n=g+1) (hk:k.agg=true) (hl:cs.length=sz) (hs:All2 (FinC σ kNone) cs ds) (hv':σ.env t'=.s u) (hs':FinS σ kNone u u') (hr:r=.tup [.agg ds,u']):Ret P fn r .ret σ:=oc2 hf hv hm hn hk hl hs hv' hs' hr
end rets
theorem finL_p {σ:St} {K:Nat→Bool}:∀ {cs:List AC} [h:PureL cs],All2 (FinC σ K) cs cs:=by
  intro cs h
  refine ⟨rfl,fun i a b ha hb=>?_⟩
  rw [ha] at hb;obtain rfl:=Option.some.inj hb
  have:=h.pure a (List.mem_of_getElem? ha)
  cases a<;>simp [AC.isP] at this
  exact .p
theorem finS_p {σ:St} {x:PVal} {K:Nat→Bool}:FinS σ K (.one (.p x)) (.one (.p x)):=.one .p
/-! ### Objects that are lent -/
def memL:List (Nat × (Nat × Option MO))→Nat→Nat × Option MO
  | [],_=>(0,none)
  | (k,m)::l,o=>if o=k then m else memL l o
def kIn:List (Nat × (Nat × Option MO))→Nat→Bool
  | [],_=>false
  | (k,_)::l,o=>Nat.beq o k||kIn l o
def FinMs (σ:St) (K:Nat→Bool):List (Nat × (Nat × Option MO))→Prop
  | []=>True
  | p::l=>FinM σ K (σ.mem p.1) p.2∧FinMs σ K l
theorem RetO.mk {P:Program} {fn:Func} {r:AV} {σ:St} {l:List (Nat × (Nat × Option MO))} (h:ResL P fn σ (kIn l) r) (hm:FinMs σ (kIn l) l):RetO P fn r (kIn l) (memL l) .ret σ:=by
  refine ⟨h,?_,?_⟩
  · have key:∀ (K:Nat→Bool) (l:List (Nat × (Nat × Option MO))),FinMs σ K l→∀ o,kIn l o=true→FinM σ K (σ.mem o) (memL l o):=by
      intro K l
      induction l with
      | nil=>intro _ o ho;cases ho
      | cons p l ih=>
        obtain ⟨k,m⟩:=p
        intro hl o ho
        by_cases hk:o=k
        · subst hk;simp only [memL,if_true];exact hl.1
        · simp only [memL,hk,if_false]
          refine ih hl.2 o ?_
          simp only [kIn,Bool.or_eq_true] at ho
          exact ho.resolve_left fun h=>hk (Nat.eq_of_beq_eq_true h)
    exact key _ l hm
  · intro o ho
    induction l with
    | nil=>rfl
    | cons p l ih=>
      obtain ⟨k,m⟩:=p
      simp only [kIn,Bool.or_eq_false_iff] at ho
      have hk:o≠k:=fun e=>by rw [e] at ho;simp at ho
      simp only [memL,hk,if_false]
      have key:∀ (l:List (Nat × (Nat × Option MO))),kIn l o=false→memL l o=(0,none):=by
        intro l
        induction l with
        | nil=>intro _;rfl
        | cons p l ih=>
          obtain ⟨k,m⟩:=p
          intro ho
          simp only [kIn,Bool.or_eq_false_iff] at ho
          have hk:o≠k:=fun e=>by rw [e] at ho;simp at ho
          simp only [memL,hk,if_false];exact ih ho.2
      exact key l ho.2
end Go.Aw
/- THE ABSTRACT WALK, part 8: loops by what turns in them. -/
namespace Go.Aw
open Go Go.RowKit
set_option linter.unusedVariables false
set_option linter.unusedSimpArgs false
def ovl {α:Type}:List (Nat × α)→(Nat→α)→Nat→α
  | [],f,t=>f t
  | (k,v)::l,f,t=>if t=k then v else ovl l f t
def memb:List Nat→Nat→Bool
  | [],_=>false
  | k::l,t=>Nat.beq t k||memb l t
def St.fr (σ:St) (W:List Nat) (β:Nat→AV) (e:List (Nat × AV)) (M:List Nat) (γ:Nat→Nat × Option MO) (m:List (Nat × (Nat × Option MO))):St where
  env:=ovl e fun t=>bif memb W t then β t else σ.env t
  mem:=ovl m fun t=>bif memb M t then γ t else σ.mem t
def Fr' (σ:St) (W:List Nat) (e:List (Nat × AV)) (M:List Nat) (m:List (Nat × (Nat × Option MO))) (τ:St):Prop:=∃ β γ,τ=σ.fr W β e M γ m
structure Agr (σ:St) (W M:List Nat) (τ:St):Prop where
  env:∀ t,memb W t=false→τ.env t=σ.env t
  mem:∀ t,memb M t=false→τ.mem t=σ.mem t
theorem Agr.refl {σ:St} {W M:List Nat}:Agr σ W M σ:=⟨fun _ _=>rfl,fun _ _=>rfl⟩
theorem Agr.set {σ τ:St} {W M:List Nat} {d:Nat} {v:AV} (hd:memb W d=true) (h:Agr σ W M τ):Agr σ W M (τ.set (some d) v):=
  ⟨fun t ht=>by
    have:t≠d:=fun e=>by rw [e,hd] at ht;cases ht
    simp only [St.set,this,if_false];exact h.env t ht,h.mem⟩
theorem Agr.app {σ τ:St} {W M:List Nat} {d:Nat} {v:AV} (hd:memb W d=true) (h:Agr σ W M τ):Agr σ W M ((⟨v,[]⟩:Eff).app (some d) τ):=h.set hd
theorem Agr.put {σ τ:St} {W M:List Nat} {o:Nat} {m:Nat × Option MO} (ho:memb M o=true) (h:Agr σ W M τ):Agr σ W M (τ.put o m):=
  ⟨h.env,fun t ht=>by
    have:t≠o:=fun e=>by rw [e,ho] at ht;cases ht
    simp only [St.put,this,if_false];exact h.mem t ht⟩
theorem Agr.puts {σ τ:St} {W M:List Nat}:∀ {l:List (Nat × (Nat × Option MO))},l.all (fun p=>memb M p.1)=true→Agr σ W M τ→Agr σ W M (τ.puts l)
  | [],_,h=>h
  | (o,m)::l,ho,h=>by
    simp only [List.all_cons,Bool.and_eq_true] at ho
    exact (Agr.puts ho.2 h).put ho.1
theorem Agr.appg {σ τ:St} {W M:List Nat} {e:Eff} {d:Nat} (hd:memb W d=true) (ho:e.obj.all (fun p=>memb M p.1)=true) (h:Agr σ W M τ):Agr σ W M (e.app (some d) τ):=(Agr.puts ho h).set hd
theorem Agr.appgn {σ τ:St} {W M:List Nat} {e:Eff} (ho:e.obj.all (fun p=>memb M p.1)=true) (h:Agr σ W M τ):Agr σ W M (e.app none τ):=Agr.puts ho h
theorem ovl_mem {α:Type} {e:List (Nat × α)} {f g:Nat→α} {t:Nat} (h:f t=g t):ovl e f t=ovl e g t:=by
  induction e with
  | nil=>exact h
  | cons p e ih=>obtain ⟨k,v⟩:=p;simp only [ovl];split;rfl;exact ih
theorem Agr.fr {σ:St} {W W' M M':List Nat} {β:Nat→AV} {e:List (Nat × AV)} {γ:Nat→Nat × Option MO} {m:List (Nat × (Nat × Option MO))} {σ':St} (h:Agr σ W M σ') (hW:∀ t,memb W' t=true→memb W t=true) (hM:∀ t,memb M' t=true→memb M t=true)
    (he:e.all (fun p=>memb W p.1)=true) (hm:m.all (fun p=>memb M p.1)=true):Agr σ W M (σ'.fr W' β e M' γ m):=by
  have key:∀ {α:Type} (l:List (Nat × α)) (f:Nat→α) (W:List Nat) (t:Nat),l.all (fun p=>memb W p.1)=true→memb W t=false→ovl l f t=f t:=by
    intro α l f W t hl ht
    induction l with
    | nil=>rfl
    | cons p l ih=>
      obtain ⟨k,v⟩:=p
      simp only [List.all_cons,Bool.and_eq_true] at hl
      have:t≠k:=fun e=>by rw [e,hl.1] at ht;cases ht
      simp only [ovl,this,if_false];exact ih hl.2
  refine ⟨fun t ht=>?_,fun t ht=>?_⟩
  · simp only [St.fr]
    rw [key e _ W t he ht]
    have:memb W' t=false:=by
      cases hq:memb W' t with
      | false=>rfl
      | true=>rw [hW t hq] at ht;cases ht
    rw [this];exact h.env t ht
  · simp only [St.fr]
    rw [key m _ M t hm ht]
    have:memb M' t=false:=by
      cases hq:memb M' t with
      | false=>rfl
      | true=>rw [hM t hq] at ht;cases ht
    rw [this];exact h.mem t ht
theorem Agr.fr0 {σ:St} {W M:List Nat} {β:Nat→AV} {e:List (Nat × AV)} {γ:Nat→Nat × Option MO} {m:List (Nat × (Nat × Option MO))} (he:e.all (fun p=>memb W p.1)=true) (hm:m.all (fun p=>memb M p.1)=true):Agr σ W M (σ.fr W β e M γ m):=
  Agr.refl.fr (fun _ h=>h) (fun _ h=>h) he hm
inductive Knows {α:Type} (f:Nat→α):List (Nat × α)→Prop
  | nil:Knows f []
  | cons {k:Nat} {v:α} {l:List (Nat × α)} (h:f k=v) (hl:Knows f l):Knows f ((k,v)::l)
theorem Knows.ovl {α:Type} {f g:Nat→α} {W:List Nat}:∀ {e:List (Nat × α)},Knows f e→(∀ t,memb W t=false→f t=g t)→∀ t,Go.Aw.ovl e (fun t=>bif memb W t then f t else g t) t=f t
  | [],_,hg,t=>by
    simp only [Go.Aw.ovl]
    cases hq:memb W t with
    | true=>rfl
    | false=>exact (hg t hq).symm
  | (k,v)::e,h,hg,t=>by
    cases h with
    | cons h hl=>
      simp only [Go.Aw.ovl]
      split
      · rename_i ht;rw [ht];exact h.symm
      · exact Knows.ovl hl hg t
theorem st_eq {s t:St} (h1:s.env=t.env) (h2:s.mem=t.mem):s=t:=by
  obtain ⟨a,b⟩:=s;obtain ⟨c,d⟩:=t;cases h1;cases h2;rfl
theorem Fr'.mk {σ τ:St} {W M:List Nat} {e:List (Nat × AV)} {m:List (Nat × (Nat × Option MO))} (h:Agr σ W M τ) (he:Knows τ.env e) (hm:Knows τ.mem m):Fr' σ W e M m τ:=by
  refine ⟨τ.env,τ.mem,?_⟩
  have h1:τ.env=(σ.fr W τ.env e M τ.mem m).env:=funext fun t=>(he.ovl h.env t).symm
  have h2:τ.mem=(σ.fr W τ.env e M τ.mem m).mem:=funext fun t=>(hm.ovl h.mem t).symm
  exact st_eq h1 h2
theorem aws_loopF {ι:Type} {C:Ctx} {Q:Exit→St→Prop} {σ:St} {c:Code} {k:List Code} {id:Nat} (W M:List Nat) (e:ι→List (Nat × AV)) (m:ι→List (Nat × (Nat × Option MO))) (P:ι→Prop) (μ:ι→Nat) (i₀:ι)
    (h₀:P i₀) (he:Knows σ.env (e i₀)) (hm:Knows σ.mem (m i₀))
    (round:∀ i β γ,P i→AWs C [c] (fun x s'=>match x with | .normal=>∃ j,μ j < μ i∧P j∧Fr' σ W (e j) M (m j) s'|x=>blk id (AWs C k Q) Q x s') (σ.fr W β (e i) M γ (m i))):AWs C (.block id (.loop c)::k) Q σ:=
  aws_loop (fun i s=>P i∧Fr' σ W (e i) M (m i) s) μ i₀ ⟨h₀,.mk .refl he hm⟩ fun i s ⟨hP,β,γ,hs⟩=>by subst hs;exact round i β γ hP
end Go.Aw
/- THE ABSTRACT WALK, part 9: '==' between structs and arrays of plain cells. -/
namespace Go.Aw
open Go Go.RowKit
set_option linter.unusedVariables false
set_option linter.unusedSimpArgs false
inductive LK where
  | int (k:IntKind)|bool|str
def LK.has:LK→Value→Bool
  | .int k,.int k' _=>k == k'
  | .bool,.bool _=>true
  | .str,.string _=>true
  | _,_=>false
def vEq:Value→Value→Bool
  | .int _ a,.int _ b=>decide (a=b)
  | .bool a,.bool b=>a == b
  | .string a,.string b=>a.toList == b.toList
  | _,_=>false
def vEqB:List Value→List Value→Bool
  | [],[]=>true
  | x::xs,y::ys=>vEq x y&&vEqB xs ys
  | _,_=>false
def HasL (lks:List LK) (xs:List Value):Prop:=All2 (fun l v=>LK.has l v=true) lks xs
theorem vEqB_append:∀ {a b c d:List Value},a.length=c.length→vEqB (a++b) (c++d)=(vEqB a c&&vEqB b d)
  | [],b,[],d,_=>by simp [vEqB]
  | x::a,b,y::c,d,h=>by
    simp only [List.cons_append,vEqB]
    rw [vEqB_append (by simpa using h),Bool.and_assoc]
  | [],_,_::_,_,h=>by simp at h
  | _::_,_,[],_,h=>by simp at h
def flatEq (P:Program):Nat→TypeId→Option (List LK)
  | 0,_=>none
  | f+1,T=>match P.underlying T with
    | some (.int k)=>some [.int k]
    | some .bool=>some [.bool]
    | some .string=>some [.str]
    | some (.struct fs)=>if P.stoodInHeld T then none else
        (fs.toList.foldl (fun (acc:Option (List LK)) fd=>match acc,flatEq P f fd.type with
          | some l, some m => if fd.name ≠ "_" ∧ fd.offset = l.length ∧ (P.info? fd.type).map (·.size) = some m.length then some (l ++ m) else none
          | _,_=>none) (some []))
    | some (.array n e)=>match flatEq P f e with
        | some m=>if (P.info? e).map (·.size)=some m.length then some (List.replicate n m).flatten else none
        | none=>none
    | _=>none
class EqT (P:Program) (T:TypeId) (lks:outParam (List LK)):Prop where
  flat:flatEq P 6 T=some lks
  guard:P.eqGuardType P.depth T=false
def IsV (P:Program) (T:TypeId) (xs:List Value) (v:Value):Prop:=
  match P.underlying T with
  | some (.struct _)|some (.array _ _)=>v=.agg xs.toArray
  | _=>xs=[v]
theorem run_partV {P:Program} {T:TypeId} {xs:List Value} {off n:Nat} {d:TypeDesc} (hd:P.underlying T=some d) (hs:(P.info? T).map (·.size)=some n) (hl:off+n≤xs.length) (h1:(TK.of d).agg=false→n=1) (w:World) :
    ∃ v,(part T xs.toArray off).run P w=.ok v w∧IsV P T ((xs.drop off).take n) v:=by
  have hTI:TI P T (TK.of d) n (((P.info? T).map (·.bytes)).getD 0):=⟨by simp [hd],by cases hi:P.info? T<;>simp_all⟩
  have:=run_part hTI xs off w hl h1
  refine ⟨_,this,?_⟩
  unfold IsV
  rw [hd]
  cases d with
  | struct fs=>simp [TK.of,TK.agg]
  | array n' e=>simp [TK.of,TK.agg]
  | _=>
    have hn:n=1:=h1 rfl
    subst hn
    have hlt:off < xs.length:=by omega
    simp only [TK.of,TK.agg,Bool.false_eq_true,if_false]
    rw [List.getD_eq_getElem?_getD,List.getElem?_eq_getElem hlt,Option.getD_some]
    rw [List.drop_eq_getElem_cons hlt];rfl
def eqElems (d:Nat) (e:TypeId) (n:Nat) (xs ys:Array Value):List Nat→Sem Bool
  | []=>pure true
  | i::l=>do
    let a ← part e xs (i * n)
    let b ← part e ys (i * n)
    let r ← Op.equalIn d e a b
    if (!r)=true then pure false else eqElems d e n xs ys l
theorem run_equalIn_array {P:Program} (d:Nat) (t e:TypeId) (len n:Nat) (xs ys:Array Value) (ht:P.underlying t=some (.array len e)) (hn:(P.info? e).map (·.size)=some n) (w:World) :
    (Op.equalIn (d+1) t (.agg xs) (.agg ys)).run P w=(eqElems d e n xs ys (List.range' 0 len)).run P w:=by
  have hs:(sizeOf e).run P w=.ok n w:=by
    cases hi:P.info? e with
    | none=>simp [hi] at hn
    | some i=>simp [hi] at hn;simp [sizeOf,typeInfo,hi,hn]
  simp only [Op.equalIn,Sem.run_bind,run_underlying ht,Result.andThen_ok,hs]
  rw [Std.Legacy.Range.forIn_eq_forIn_range']
  simp only [Std.Legacy.Range.size,Nat.sub_zero,Nat.add_sub_cancel,Nat.div_one]
  generalize List.range' 0 len 1=l
  clear hs
  induction l generalizing w with
  | nil=>simp [eqElems]
  | cons i l ih=>
    simp only [List.forIn_cons,eqElems,Sem.run_bind,Sem.run_ite]
    generalize (part e xs (i * n)).run P w=r1
    cases r1 with
    | ok a w1=>
      simp only [Result.andThen_ok]
      generalize (part e ys (i * n)).run P w1=r2
      cases r2 with
      | ok b w2=>
        simp only [Result.andThen_ok]
        generalize (Op.equalIn d e a b).run P w2=r3
        cases r3 with
        | ok r w3=>
          cases r
          · simp only [Result.andThen_ok,Bool.not_false,if_true,Sem.run_pure]
          · simp only [Result.andThen_ok,Bool.not_true,Bool.false_eq_true,if_false,Sem.run_pure]
            exact ih w3
        | halt x w3=>simp [Result.andThen]
      | halt x w2=>simp [Result.andThen]
    | halt x w1=>simp [Result.andThen]
theorem flatEq_leaf {P:Program} {f:Nat} {T:TypeId} {lks:List LK} {d:TypeDesc} (h:flatEq P f T=some lks) (hd:P.underlying T=some d) (hk:(TK.of d).agg=false):lks.length=1:=by
  cases f with
  | zero=>simp [flatEq] at h
  | succ f=>cases d<;>simp [flatEq,hd,TK.of,TK.agg] at h hk<;>simp [← h]
theorem flatEq_und {P:Program} {f:Nat} {T:TypeId} {lks:List LK} (h:flatEq P f T=some lks):∃ d,P.underlying T=some d:=by
  cases f with
  | zero=>simp [flatEq] at h
  | succ f=>
    cases hu:P.underlying T with
    | none=>simp [flatEq,hu] at h
    | some d=>exact ⟨d,rfl⟩
theorem vEqB_split {n:Nat} {xs ys:List Value} (h:xs.length=ys.length):vEqB xs ys=(vEqB (xs.take n) (ys.take n)&&vEqB (xs.drop n) (ys.drop n)):=by
  rw [← vEqB_append (by simp [h]),List.take_append_drop,List.take_append_drop]
def fstep (P:Program) (f:Nat) (acc:Option (List LK)) (fd:Field):Option (List LK):=match acc,flatEq P f fd.type with
  | some l, some m => if fd.name ≠ "_" ∧ fd.offset = l.length ∧ (P.info? fd.type).map (·.size) = some m.length then some (l ++ m) else none
  | _,_=>none
theorem fstep_none {P:Program} {f:Nat}:∀ (fs:List Field),fs.foldl (fstep P f) none=none
  | []=>rfl
  | fd::fs=>by simp only [List.foldl_cons,fstep];exact fstep_none fs
def FlatOk (P:Program) (f:Nat):Prop:=∀ T lks,flatEq P f T=some lks→∀ d,f≤d→∀ xs ys u v,HasL lks xs→HasL lks ys→IsV P T xs u→IsV P T ys v→∀ w,(Op.equalIn d T u v).run P w=.ok (vEqB xs ys) w
theorem sub_eq {P:Program} {f d:Nat} (ih:FlatOk P f) (hfd:f≤d) {T:TypeId} {m pre post lks:List LK} (hm:flatEq P f T=some m) (hs:(P.info? T).map (·.size)=some m.length) {xs ys:List Value} (hx:HasL lks xs) (hy:HasL lks ys) (he:lks=pre++m++post) (w:World) :
    ∃ a b,(part T xs.toArray pre.length).run P w=.ok a w∧(part T ys.toArray pre.length).run P w=.ok b w∧(Op.equalIn d T a b).run P w=.ok (vEqB ((xs.drop pre.length).take m.length) ((ys.drop pre.length).take m.length)) w:=by
  obtain ⟨dd,hdd⟩:=flatEq_und hm
  have h1:(TK.of dd).agg=false→m.length=1:=fun hk=>flatEq_leaf hm hdd hk
  have hlx:pre.length+m.length≤xs.length:=by rw [← hx.1,he];simp
  have hly:pre.length+m.length≤ys.length:=by rw [← hy.1,he];simp
  obtain ⟨a,ha,hva⟩:=run_partV hdd hs hlx h1 w
  obtain ⟨b,hb,hvb⟩:=run_partV hdd hs hly h1 w
  have hsub:(lks.drop pre.length).take m.length=m:=by
    rw [he,List.append_assoc,List.drop_left',List.take_left']<;>rfl
  have hx':HasL m ((xs.drop pre.length).take m.length):=by have:=(All2.drop hx pre.length).take m.length;rwa [hsub] at this
  have hy':HasL m ((ys.drop pre.length).take m.length):=by have:=(All2.drop hy pre.length).take m.length;rwa [hsub] at this
  exact ⟨a,b,ha,hb,ih T m hm d hfd _ _ a b hx' hy' hva hvb w⟩
theorem fields_eq {P:Program} {f d:Nat} (ih:FlatOk P f) (hfd:f≤d) {lks:List LK} {xs ys:List Value} (hx:HasL lks xs) (hy:HasL lks ys) (w:World):∀ (fs:List Field) (l:List LK),fs.foldl (fstep P f) (some l)=some lks→
    (∃ r,lks=l++r)∧(Op.eqFields d xs.toArray ys.toArray fs).run P w=.ok (vEqB (xs.drop l.length) (ys.drop l.length)) w
  | [],l,h=>by
    simp only [List.foldl_nil,Option.some.injEq] at h
    subst h
    refine ⟨⟨[],by simp⟩,?_⟩
    have e1:xs.drop l.length=[]:=List.drop_of_length_le (Nat.le_of_eq hx.1.symm)
    have e2:ys.drop l.length=[]:=List.drop_of_length_le (Nat.le_of_eq hy.1.symm)
    rw [e1,e2];simp [Op.eqFields,vEqB]
  | fd::fs,l,h=>by
    simp only [List.foldl_cons] at h
    cases hm:flatEq P f fd.type with
    | none=>simp only [fstep,hm] at h;rw [fstep_none] at h;cases h
    | some m=>
      simp only [fstep,hm] at h
      by_cases hc : fd.name ≠ "_" ∧ fd.offset = l.length ∧ (P.info? fd.type).map (·.size) = some m.length
      · rw [if_pos hc] at h
        obtain ⟨⟨r,hr⟩,hrun⟩:=fields_eq ih hfd hx hy w fs (l++m) h
        refine ⟨⟨m++r,by rw [hr];simp⟩,?_⟩
        obtain ⟨a,b,ha,hb,hab⟩:=sub_eq ih hfd hm hc.2.2 hx hy hr w
        simp only [Op.eqFields,if_pos hc.1,Sem.run_bind,hc.2.1,ha,hb,hab,Result.andThen_ok]
        have hlen:(xs.drop l.length).length=(ys.drop l.length).length:=by simp [← hx.1,← hy.1]
        rw [vEqB_split (n:=m.length) hlen]
        simp only [List.drop_drop]
        simp only [List.length_append] at hrun
        cases vEqB ((xs.drop l.length).take m.length) ((ys.drop l.length).take m.length) with
        | true=>simpa using hrun
        | false=>simp
      · rw [if_neg hc,fstep_none] at h;cases h
theorem elems_eq {P:Program} {f d:Nat} (ih:FlatOk P f) (hfd:f≤d) {e:TypeId} {m lks:List LK} (hm:flatEq P f e=some m) (hs:(P.info? e).map (·.size)=some m.length) {xs ys:List Value} (hx:HasL lks xs) (hy:HasL lks ys) (w:World):∀ (k i:Nat),lks=(List.replicate (i+k) m).flatten→
    (eqElems d e m.length xs.toArray ys.toArray (List.range' i k)).run P w=.ok (vEqB (xs.drop (i * m.length)) (ys.drop (i * m.length))) w
  | 0,i,h=>by
    have hl:lks.length=i * m.length:=by rw [h];simp
    have e1:xs.drop (i * m.length)=[]:=List.drop_of_length_le (by rw [← hl,hx.1];exact Nat.le_refl _)
    have e2:ys.drop (i * m.length)=[]:=List.drop_of_length_le (by rw [← hl,hy.1];exact Nat.le_refl _)
    rw [e1,e2];simp [eqElems,vEqB]
  | k+1,i,h=>by
    have h':lks=(List.replicate i m).flatten++m++(List.replicate k m).flatten:=by
      rw [h,← List.replicate_append_replicate,List.flatten_append,List.replicate_succ,List.flatten_cons,List.append_assoc]
    have hpl:(List.replicate i m).flatten.length=i * m.length:=by simp
    obtain ⟨a,b,ha,hb,hab⟩:=sub_eq ih hfd hm hs hx hy h' w
    rw [hpl] at ha hb hab
    have hrun:=elems_eq ih hfd hm hs hx hy w k (i+1) (by rw [h];congr 2;omega)
    simp only [List.range'_succ,eqElems,Sem.run_bind,ha,hb,hab,Result.andThen_ok]
    have hlen:(xs.drop (i * m.length)).length=(ys.drop (i * m.length)).length:=by simp [← hx.1,← hy.1]
    rw [vEqB_split (n:=m.length) hlen]
    simp only [List.drop_drop]
    rw [Nat.add_mul,Nat.one_mul] at hrun
    cases vEqB ((xs.drop (i * m.length)).take m.length) ((ys.drop (i * m.length)).take m.length) with
    | true=>simpa using hrun
    | false=>simp
theorem hasL_one {l:LK} {xs:List Value} (h:HasL [l] xs):∃ v,xs=[v]∧LK.has l v=true:=by
  obtain ⟨v,m,rfl,h1,h2⟩:=All2.cons_inv h
  obtain rfl:=h2.nil_inv
  exact ⟨v,rfl,h1⟩
theorem flat_ok {P:Program}:∀ f,FlatOk P f
  | 0=>fun T lks h=>by simp [flatEq] at h
  | f+1=>fun T lks h d hfd xs ys u v hx hy hu hv w=>by
    have ih:=flat_ok (P:=P) f
    obtain ⟨d,rfl⟩:∃ d',d=d'+1:=⟨d - 1,by omega⟩
    obtain ⟨dd,hdd⟩:=flatEq_und h
    simp only [flatEq,hdd] at h
    simp only [IsV,hdd] at hu hv
    cases dd with
    | int k=>
      simp only [Option.some.injEq] at h;subst h
      obtain ⟨x,rfl,h1⟩:=hasL_one hx
      obtain ⟨y,rfl,h2⟩:=hasL_one hy
      simp only [List.cons.injEq,and_true] at hu hv
      subst hu hv
      cases x<;>simp [LK.has] at h1
      cases y<;>simp [LK.has] at h2
      rename_i k1 a k2 b
      subst h1 h2
      rw [run_equalIn_int w d T _ _ a b hdd];simp [vEqB,vEq];rfl
    | bool=>
      simp only [Option.some.injEq] at h;subst h
      obtain ⟨x,rfl,h1⟩:=hasL_one hx
      obtain ⟨y,rfl,h2⟩:=hasL_one hy
      simp only [List.cons.injEq,and_true] at hu hv
      subst hu hv
      cases x<;>simp [LK.has] at h1
      cases y<;>simp [LK.has] at h2
      rw [run_equalIn_bool' w d T _ _ hdd];simp [vEqB,vEq]
    | string=>
      simp only [Option.some.injEq] at h;subst h
      obtain ⟨x,rfl,h1⟩:=hasL_one hx
      obtain ⟨y,rfl,h2⟩:=hasL_one hy
      simp only [List.cons.injEq,and_true] at hu hv
      subst hu hv
      cases x<;>simp [LK.has] at h1
      cases y<;>simp [LK.has] at h2
      rw [run_equalIn_string w d T _ _ hdd];simp [vEqB,vEq]
    | struct fs=>
      simp only at hu hv
      subst hu hv
      by_cases hst:P.stoodInHeld T=true
      · simp [hst] at h
      · simp only [hst,if_false] at h
        have hfo:P.fieldsOf T=fs:=by simp [Program.fieldsOf,hdd]
        have hrun:=run_equalIn_struct (P:=P) w d T xs.toArray ys.toArray (by rw [hfo];exact hdd) (by simpa using hst)
        rw [hrun,hfo]
        have:=(fields_eq (d:=d) ih (by omega) hx hy w fs.toList [] h).2
        simpa using this
    | array n e=>
      simp only at hu hv
      subst hu hv
      cases hm:flatEq P f e with
      | none=>simp [hm] at h
      | some m=>
        simp only [hm] at h
        by_cases hs:(P.info? e).map (·.size)=some m.length
        · simp only [hs,if_true,Option.some.injEq] at h
          rw [run_equalIn_array d T e n m.length _ _ hdd hs w]
          have:=elems_eq (d:=d) ih (by omega) hm hs hx hy w n 0 (by rw [← h];simp)
          simpa using this
        · simp [hs] at h
    | _=>simp at h
def Plain (cs:List AC) (xs:List Value):Prop:=cs=xs.map fun v=>.p (.v v)
theorem plain_vals {μ:Mu} {X:Wd} {cs:List AC} {xs arr:List Value} (h:Plain cs xs) (ha:All2 (AC.holds μ X) cs arr):arr=xs:=by
  subst h
  apply List.ext_getElem?
  intro i
  by_cases hi:i < xs.length
  · have h1:(xs.map fun v=>AC.p (.v v))[i]?=some (.p (.v xs[i])):=by simp [hi]
    obtain ⟨v,hv,hh⟩:=ha.get h1
    rw [hv,List.getElem?_eq_getElem hi,hh.1]
  · have:=ha.1
    simp only [List.length_map] at this
    rw [List.getElem?_eq_none (by omega),List.getElem?_eq_none (by omega)]
theorem Plain.nil:Plain [] []:=rfl
theorem Plain.cons {v:Value} {cs:List AC} {xs:List Value} (h:Plain cs xs):Plain (.p (.v v)::cs) (v::xs):=by unfold Plain at *;rw [h];rfl
theorem Plain.map {α:Type} {l:List α} {f:α→Value}:Plain (l.map fun x=>.p (.v (f x))) (l.map f):=by unfold Plain;simp
theorem Plain.append {cs ds:List AC} {xs ys:List Value} (h:Plain cs xs) (k:Plain ds ys):Plain (cs++ds) (xs++ys):=by unfold Plain at *;rw [h,k];simp
section ops
variable {C:Ctx} {o:Oper} {σ:St} {t t':TypeId} {x y:Operand} {lks:List LK} {cs ds:List AC} {xs ys:List Value}
theorem lop_eqla (ho:o.op=.binOp .eql t x y t') (hT:EqT C.P t lks) (hx:σ.look x=.a cs) (hy:σ.look y=.a ds) (h1:Plain cs xs) (h2:Plain ds ys) (h3:HasL lks xs) (h4:HasL lks ys) (hagg:∃ k sz by_,TI C.P t k sz by_∧k.agg=true) (hd:dOk C o.dst=true) :
    LOp C o σ ⟨.p (.v (.bool (vEqB xs ys))),[]⟩ (fun _=>false):=
  lop_val hd fun τ a w G hl hm h=>by
    obtain ⟨ax,e1,q1⟩:=look_of h ((hl x (by simp [ho,Op.operands])).trans hx)
    obtain ⟨ay,e2,q2⟩:=look_of h ((hl y (by simp [ho,Op.operands])).trans hy)
    obtain rfl:=plain_vals h1 q1
    obtain rfl:=plain_vals h2 q2
    obtain ⟨k,sz,by_,hTI,hk⟩:=hagg
    obtain ⟨d,hdd,hkd⟩:=hTI.undd
    have hV:∀ zs:List Value,IsV C.P t zs (.agg zs.toArray):=fun zs=>by
      unfold IsV;rw [hdd]
      subst hkd
      cases d<;>simp [TK.of,TK.agg] at hk<;>rfl
    have hrun:=flat_ok 6 t lks hT.flat 10000 (by omega) ax ay _ _ h3 h4 (hV ax) (hV ay) w
    refine ⟨.bool (vEqB ax ay),?_,rfl,rfl⟩
    simp only [execOp,ho,e1,e2,Sem.run_bind,run_eqGuard_agg w .eql t x y _ _ hT.guard,Result.andThen_ok,run_eql_struct,hrun,Sem.run_pure]
theorem lop_neqa (ho:o.op=.binOp .neq t x y t') (hT:EqT C.P t lks) (hx:σ.look x=.a cs) (hy:σ.look y=.a ds) (h1:Plain cs xs) (h2:Plain ds ys) (h3:HasL lks xs) (h4:HasL lks ys) (hagg:∃ k sz by_,TI C.P t k sz by_∧k.agg=true) (hd:dOk C o.dst=true) :
    LOp C o σ ⟨.p (.v (.bool (!vEqB xs ys))),[]⟩ (fun _=>false):=
  lop_val hd fun τ a w G hl hm h=>by
    obtain ⟨ax,e1,q1⟩:=look_of h ((hl x (by simp [ho,Op.operands])).trans hx)
    obtain ⟨ay,e2,q2⟩:=look_of h ((hl y (by simp [ho,Op.operands])).trans hy)
    obtain rfl:=plain_vals h1 q1
    obtain rfl:=plain_vals h2 q2
    obtain ⟨k,sz,by_,hTI,hk⟩:=hagg
    obtain ⟨d,hdd,hkd⟩:=hTI.undd
    have hV:∀ zs:List Value,IsV C.P t zs (.agg zs.toArray):=fun zs=>by
      unfold IsV;rw [hdd]
      subst hkd
      cases d<;>simp [TK.of,TK.agg] at hk<;>rfl
    have hrun:=flat_ok 6 t lks hT.flat 10000 (by omega) ax ay _ _ h3 h4 (hV ax) (hV ay) w
    refine ⟨.bool (!vEqB ax ay),?_,rfl,rfl⟩
    simp only [execOp,ho,e1,e2,Sem.run_bind,run_eqGuard_agg w .neq t x y _ _ hT.guard,Result.andThen_ok,run_neq_struct,hrun,Sem.run_pure]
end ops
theorem HasL.nil:HasL [] []:=All2.nil
theorem HasL.cons {l:LK} {v:Value} {ls:List LK} {xs:List Value} (h:LK.has l v=true) (k:HasL ls xs):HasL (l::ls) (v::xs):=All2.cons h k
end Go.Aw
/- THE ABSTRACT WALK, part 10: a call that is lent objects, at the caller. -/
namespace Go.Aw
open Go Go.RowKit
set_option linter.unusedVariables false
set_option linter.unusedSimpArgs false
def putsM (mem:Nat→Nat × Option MO):List (Nat × (Nat × Option MO))→Nat→Nat × Option MO
  | [],o=>mem o
  | (k,m)::l,o=>if o=k then m else putsM mem l o
theorem puts_mem_eq:∀ (l:List (Nat × (Nat × Option MO))) (σ:St) (o:Nat),(σ.puts l).mem o=putsM σ.mem l o
  | [],_,_=>rfl
  | (k,m)::l,σ,o=>by
    simp only [St.puts,St.put,putsM]
    split
    · rfl
    · exact puts_mem_eq l σ o
theorem RelG.objG {C:Ctx} {σ:St} {a:Act} {w:World} {G:Gh} (h:RelG C σ a w G):ObjG σ.mem w G:=
  ⟨h.gens,h.mem,h.apart,h.stab,fun o b hb=>(h.own o b hb).2,fun b hb=>(h.sbd b hb).1⟩
theorem RelG.called {C:Ctx} {σ:St} {a:Act} {w w':World} {G G':Gh} {D:Nat→Prop} {mem':Nat→Nat × Option MO} (h:RelG C σ a w G) (ho:ObjG mem' w' G')
    (hS:∀ b,G.S b→G'.S b) (hS':∀ b,G'.S b→G.S b∨w.heap.size≤b∨∃ o,D o∧b∈G.φ o)
    (hφ:∀ o b,b∈G'.φ o→b∈G.φ o∨w.heap.size≤b∨∃ o',D o'∧b∈G.φ o') (hμ:G.μ.le G'.μ) (hf:FrF (fun b=>∃ o,D o∧b∈G.φ o) w w') :
    RelG C ⟨σ.env,mem'⟩ a w' G':=by
  have hle:Wd.le ⟨w,G.S⟩ ⟨w',G'.S⟩:=fun b hb=>⟨hS b hb,hf.block b (h.sbd b hb).1 fun ⟨o,_,ho⟩=>h.stab o b ho hb⟩
  exact {
    size:=h.size
    defers:=fun d hd=>by
      obtain ⟨b,rfl,h1,h2,h3,h4,h5⟩:=h.defers d hd
      refine ⟨b,rfl,h1,Nat.lt_of_lt_of_le h2 hf.size,(hf.block b h2 fun ⟨o,_,ho⟩=>h5 o ho).trans h3,fun hs=>?_,fun o hb=>?_⟩
      · rcases hS' b hs with hs|hs | ⟨o,_,hs⟩
        · exact h4 hs
        · omega
        · exact h5 o hs
      · rcases hφ o b hb with hb|hb | ⟨o,_,hb⟩
        · exact h5 o hb
        · omega
        · exact h5 o hb
    dnod:=h.dnod
    mle:=h.mle.trans hμ
    env:=fun t=>(h.env t).mono hμ hle
    gens:=ho.gens
    mem:=ho.mem
    apart:=ho.apart
    stab:=ho.stab
    own:=fun o b hb=>⟨by
      rcases hφ o b hb with h1|h1 | ⟨o',_,h1⟩
      · exact (h.own o b h1).1
      · exact .inl (Nat.le_trans h.fr.size h1)
      · exact (h.own o' b h1).1,ho.own o b hb⟩
    sbd:=fun b hb=>⟨ho.sbd b hb,by
      rcases hS' b hb with h1|h1 | ⟨o,_,h1⟩
      · exact (h.sbd b h1).2
      · exact .inr (.inl (Nat.le_trans h.fr.size h1))
      · exact .inr (h.own o b h1).1⟩
    ssub:=fun b hb=>hS b (h.ssub b hb)
    fr:=⟨hf.os.trans h.fr.os,hf.tape.trans h.fr.tape,hf.output.trans h.fr.output,Nat.le_trans h.fr.size hf.size,fun k hk hF=>by
      refine (hf.block k (Nat.lt_of_lt_of_le hk h.fr.size) fun ⟨o,_,ho⟩=>?_).trans (h.fr.block k hk hF)
      rcases (h.own o k ho).1 with h1|h1
      · omega
      · exact hF h1⟩ }
def inL (l:List (Nat × (Nat × Option MO))) (o:Nat):Prop:=kIn l o=true
def OCAt (P:Program) (f:FuncId) (args:List AV) (lent:List (Nat × (Nat × Option MO))) (fresh:List (Nat × Nat)) (r:AV) (upds:List (Nat × (Nat × Option MO))):Prop:=
  ∀ (w:World) (G:Gh) (mem:Nat→Nat × Option MO) (vs:List Value),ObjG mem w G→(∀ p∈lent,mem p.1=p.2)→(∀ p∈fresh,(mem p.1).1=p.2)→All2 (AV.holds G.μ ⟨w,G.S⟩) args vs→
    Calls P f vs.toArray w fun e w'=>∃ v G',e=.returned v∧r.holds G'.μ ⟨w',G'.S⟩ v∧ObjG (putsM mem upds) w' G'∧
      (∀ b,G.S b→G'.S b)∧(∀ b,G'.S b→G.S b∨w.heap.size≤b∨∃ o,inL upds o∧b∈G.φ o)∧(∀ o b,b∈G'.φ o→b∈G.φ o∨w.heap.size≤b∨∃ o',inL upds o'∧b∈G.φ o')∧
      G.μ.le G'.μ∧FrF (fun b=>∃ o,inL upds o∧b∈G.φ o) w w'
theorem inL_of {l:List (Nat × (Nat × Option MO))} {x:Nat} {m:Nat × Option MO} (h:(x,m)∈l):kIn l x=true:=by
  induction l with
  | nil=>cases h
  | cons p l ih=>
    obtain ⟨k,n⟩:=p
    simp only [List.mem_cons,Prod.mk.injEq] at h
    simp only [kIn,Bool.or_eq_true]
    rcases h with ⟨rfl,_⟩|h
    · exact .inl (by simp)
    · exact .inr (ih h)
theorem putsM_out:∀ (l:List (Nat × (Nat × Option MO))) (m:Nat→Nat × Option MO) (o:Nat),kIn l o=false→putsM m l o=m o
  | [],_,_,_=>rfl
  | (k,n)::l,m,o,h=>by
    simp only [kIn,Bool.or_eq_false_iff] at h
    have hk:o≠k:=fun e=>by rw [e] at h;simp at h
    simp only [putsM,hk,if_false];exact putsM_out l m o h.2
theorem lop_ocall {C:Ctx} {o:Oper} {σ:St} {f:FuncId} {as:Array Operand} {ts:Array TypeId} {args:List AV} {lent upds:List (Nat × (Nat × Option MO))} {fresh:List (Nat × Nat)} {r:AV}
    (ho:o.op=.call ⟨.value (.func f),as,ts⟩) (hfn:FnT C.P f) (ha:All2 (fun x a=>σ.look x=a) as.toList args) (hc:OCAt C.P f args lent fresh r upds)
    (hl:∀ p∈lent,σ.mem p.1=p.2) (hfr:∀ p∈fresh,(σ.mem p.1).1=p.2) (hsub:∀ p∈lent,kIn upds p.1=true) (hsub':∀ p∈fresh,kIn upds p.1=true) (hd:dOk C o.dst=true) :
    LOp C o σ ⟨r,upds⟩ (kIn upds):=by
  refine ⟨fun x m h=>inL_of h,fun τ hlk hm a w ⟨G,h⟩ K Q hK=>?_⟩
  have hv:All2 (AV.holds G.μ ⟨w,G.S⟩) args (as.toList.map a.eval):=by
    refine ⟨by have:=ha.1;simpa using this.symm,fun i av v hav hvv=>?_⟩
    rw [List.getElem?_map] at hvv
    cases hx:as.toList[i]? with
    | none=>rw [hx] at hvv;cases hvv
    | some x=>
      rw [hx] at hvv;simp at hvv;subst hvv
      have h1:=ha.2 i x av hx hav
      have h2:τ.look x=σ.look x:=hlk x (by rw [ho];simp [Op.operands,Call.operands];right;simpa using List.mem_of_getElem? hx)
      rw [← h1,← h2];exact h.look x
  obtain ⟨fn,h1,h2,h3⟩:=hfn.fn
  have hrun:(execOp a.eval o).run C.P w=.ok (.enter f (as.map a.eval)) w:=by
    have e1:a.eval (.func f)=.func (.func f) #[] #[]:=rfl
    have hname : (fn.name == "runtime.NumGoroutine") = false := h2
    cases hbody:fn.body with
    | none=>simp [hbody] at h3
    | some c => simp [execOp, ho, resolve, e1, Deferred.ofValue, invoke, callFunc, program, Sem.run, Sem.run_bind, h1, hbody, pure, show ¬ fn.name = "runtime.NumGoroutine" from by simpa using hname]
  refine wpIn_exec (by rw [ho];intro c h;cases h) ?_
  rw [hrun,Oper.uponIn_enter]
  refine ⟨by simp [fz,Fence.wide],(callsIn_wide (n:=0)).2 ?_⟩
  have e:(as.toList.map a.eval).toArray=as.map a.eval:=by rw [← Array.toList_map]
  rw [← e]
  refine (hc w G τ.mem _ h.objG (fun p hp=>(hm p.1 (hsub p hp)).trans (hl p hp)) (fun p hp=>by rw [hm p.1 (hsub' p hp)];exact hfr p hp) hv).mono ?_
  rintro e w' ⟨v,G',rfl,hr,hobj,k1,k2,k3,k4,k5⟩
  have hrel:=h.called hobj k1 k2 k3 k4 k5
  have hst:(⟨τ.env,putsM τ.mem upds⟩:St)=τ.puts upds:=by
    have e1:=St.puts_env upds τ
    have e2:(τ.puts upds).mem=putsM τ.mem upds:=funext fun o=>puts_mem_eq upds τ o
    cases hq:τ.puts upds;rw [hq] at e1 e2;simp at e1 e2;rw [e1,e2]
  rw [hst] at hrel
  exact hK _ _ ⟨_,hrel.setv hd hr⟩
/-! ### Other numbers for the objects -/
abbrev Rn:=Nat→Option (Nat × Option Nat)
def PVal.no:PVal:=⟨fun _ _=>False,fun _ h=>h,fun h=>h.elim⟩
def AC.ren (ρ:Rn):AC→AC
  | .p x=>.p x
  | .ptr o g off=>match ρ o with|some (c,none)=>.ptr c g off|some (c,some n)=>.ptr c (n+g) off|none=>.p .no
  | .osl o g es lo len=>match ρ o with|some (c,none)=>.osl c g es lo len|some (c,some n)=>.osl c (n+g) es lo len|none=>.p .no
  | .asl o g off len cap=>match ρ o with|some (c,none)=>.asl c g off len cap|some (c,some n)=>.asl c (n+g) off len cap|none=>.p .no
  | .fn f o g pre post=>match ρ o with|some (c,none)=>.fn f c g pre post|some (c,some n)=>.fn f c (n+g) pre post|none=>.p .no
  | .bm f o g off=>match ρ o with|some (c,none)=>.bm f c g off|some (c,some n)=>.bm f c (n+g) off|none=>.p .no
def SV.ren (ρ:Rn):SV→SV
  | .one c=>.one (c.ren ρ)
  | .agg cs=>.agg (cs.map (AC.ren ρ))
def AV.ren (ρ:Rn):AV→AV
  | .un=>.un
  | .s v=>.s (v.ren ρ)
  | .tup vs=>.tup (vs.map (SV.ren ρ))
def MO.ren (ρ:Rn):MO→MO
  | .box ty cs=>.box ty (cs.map (AC.ren ρ))
  | m=>m
structure Agree (ρ:Rn) (μc μ:Mu):Prop where
  lent:∀ k c,ρ k=some (c,none)→μc k=μ c
  fresh:∀ (k c n:Nat),ρ k=some (c,some n)→∀ (g:Nat),(μc k)[g]?=(μ c)[n+g]?
  none:∀ k,ρ k=none→μc k=[]
section ren
variable {ρ:Rn} {μc μ:Mu} {X:Wd}
theorem AC.holds_ren (h:Agree ρ μc μ) {c:AC} {v:Value}:(c.ren ρ).holds μ X v↔c.holds μc X v:=by
  cases c with
  | p x=>rfl
  | ptr o g off=>
    cases hr:ρ o with
    | none=>simp [AC.ren,hr,AC.holds,PVal.no,h.none o hr]
    | some cs=>
      obtain ⟨c,s⟩:=cs
      cases s with
      | none=>simp [AC.ren,hr,AC.holds,h.lent o c hr]
      | some n=>simp [AC.ren,hr,AC.holds,h.fresh o c n hr]
  | osl o g es lo len=>
    cases hr:ρ o with
    | none=>simp [AC.ren,hr,AC.holds,PVal.no,h.none o hr]
    | some cs=>
      obtain ⟨c,s⟩:=cs
      cases s with
      | none=>simp [AC.ren,hr,AC.holds,h.lent o c hr]
      | some n=>simp [AC.ren,hr,AC.holds,h.fresh o c n hr]
  | asl o g off len cap=>
    cases hr:ρ o with
    | none=>simp [AC.ren,hr,AC.holds,PVal.no,h.none o hr]
    | some cs=>
      obtain ⟨c,s⟩:=cs
      cases s with
      | none=>simp [AC.ren,hr,AC.holds,h.lent o c hr]
      | some n=>simp [AC.ren,hr,AC.holds,h.fresh o c n hr]
  | fn f o g pre post=>
    cases hr:ρ o with
    | none=>simp [AC.ren,hr,AC.holds,PVal.no,h.none o hr]
    | some cs=>
      obtain ⟨c,s⟩:=cs
      cases s with
      | none=>simp [AC.ren,hr,AC.holds,h.lent o c hr]
      | some n=>simp [AC.ren,hr,AC.holds,h.fresh o c n hr]
  | bm f o g off=>
    cases hr:ρ o with
    | none=>simp [AC.ren,hr,AC.holds,PVal.no,h.none o hr]
    | some cs=>
      obtain ⟨c,s⟩:=cs
      cases s with
      | none=>simp [AC.ren,hr,AC.holds,h.lent o c hr]
      | some n=>simp [AC.ren,hr,AC.holds,h.fresh o c n hr]
theorem acs_ren (h:Agree ρ μc μ) {cs:List AC} {vs:List Value}:All2 (AC.holds μ X) (cs.map (AC.ren ρ)) vs↔All2 (AC.holds μc X) cs vs:=by
  unfold All2
  simp only [List.length_map]
  refine and_congr Iff.rfl ⟨fun k i a b ha hb=>?_,fun k i a b ha hb=>?_⟩
  · exact (AC.holds_ren h).1 (k i _ b (by rw [List.getElem?_map,ha];rfl) hb)
  · rw [List.getElem?_map] at ha
    cases hx:cs[i]? with
    | none=>rw [hx] at ha;cases ha
    | some x=>rw [hx] at ha;simp at ha;subst ha;exact (AC.holds_ren h).2 (k i x b hx hb)
theorem SV.holds_ren (h:Agree ρ μc μ) {s:SV} {v:Value}:(s.ren ρ).holds μ X v↔s.holds μc X v:=by
  cases s with
  | one c=>exact AC.holds_ren h
  | agg cs=>simp only [SV.ren,SV.holds,acs_ren h]
theorem AV.holds_ren (h:Agree ρ μc μ) {s:AV} {v:Value}:(s.ren ρ).holds μ X v↔s.holds μc X v:=by
  cases s with
  | un=>rfl
  | s v=>exact SV.holds_ren h
  | tup vs=>
    simp only [AV.ren,AV.holds]
    refine exists_congr fun arr=>and_congr Iff.rfl ?_
    unfold All2
    simp only [List.length_map]
    refine and_congr Iff.rfl ⟨fun k i a b ha hb=>?_,fun k i a b ha hb=>?_⟩
    · exact (SV.holds_ren h).1 (k i _ b (by rw [List.getElem?_map,ha];rfl) hb)
    · rw [List.getElem?_map] at ha
      cases hx:vs[i]? with
      | none=>rw [hx] at ha;cases ha
      | some x=>rw [hx] at ha;simp at ha;subst ha;exact (SV.holds_ren h).2 (k i x b hx hb)
theorem MO.holds_ren (h:Agree ρ μc μ) {mo:MO} {m:Option Nat × Nat} {fp:List Nat}:(mo.ren ρ).holds μ X m fp↔mo.holds μc X m fp:=by
  cases mo with
  | box ty cs=>simp only [MO.ren,MO.holds,acs_ren h]
  | _=>rfl
end ren
theorem ocat_of {P:Program} {f:FuncId} {args:List AV} {m0 m1:Nat→Nat × Option MO} {r:AV} {lent upds:List (Nat × (Nat × Option MO))} {fresh:List (Nat × Nat)} (ρ:Rn) (ρ':Nat→Option (Nat × Option Nat))
    (h:OCall P f args m0 r m1)
    (hinv:∀ k c s,ρ k=some (c,s)↔ρ' c=some (k,s))
    (hlent:∀ k c,ρ k=some (c,none)→(c,((m0 k).1,(m0 k).2.map (MO.ren ρ)))∈lent)
    (hfresh:∀ (k c n:Nat),ρ k=some (c,some n)→m0 k=(0,none)∧(c,n)∈fresh)
    (hnone:∀ k,ρ k=none→m0 k=(0,none)∧m1 k=(0,none))
    (hup:∀ c k s,ρ' c=some (k,s)→kIn upds c=true∧∀ mem,putsM mem upds c=(s.getD 0+(m1 k).1,(m1 k).2.map (MO.ren ρ)))
    (hup':∀ c,ρ' c=none→kIn upds c=false) :
    OCAt P f (args.map (AV.ren ρ)) lent fresh (r.ren ρ) upds:=by
  intro w G mem vs ho hl hf ha
  have hag:Agree ρ (fun k=>match ρ k with|some (c,none)=>G.μ c|_=>[]) G.μ:=by
    refine ⟨fun k c hk=>by simp [hk],fun k c n hk g=>?_,fun k hk=>by simp [hk]⟩
    have h1:=hf _ (hfresh k c n hk).2
    have h2:=ho.gens c
    simp only at h1
    simp [hk,h2,h1]
  have hren:∀ {k c:Nat},ρ k=some (c,none)→mem c=((m0 k).1,(m0 k).2.map (MO.ren ρ)):=fun {k c} hk=>hl _ (hlent k c hk)
  have hm0:∀ {k n mo},m0 k=(n,some mo)→∃ c,ρ k=some (c,none):=fun {k n mo} hk=>by
    cases hr:ρ k with
    | none=>rw [(hnone k hr).1] at hk;cases hk
    | some cs=>
      obtain ⟨c,s⟩:=cs
      cases s with
      | none=>exact ⟨c,rfl⟩
      | some n=>rw [(hfresh k c n hr).1] at hk;cases hk
  refine (h w ⟨fun k=>match ρ k with|some (c,none)=>G.μ c|_=>[],G.S,fun k=>match ρ k with|some (c,none)=>G.φ c|_=>[]⟩ vs ?_ ?_).mono ?_
  · exact {
      gens:=fun k=>by
        cases hr:ρ k with
        | none=>simp [(hnone k hr).1,hr]
        | some cs=>
          obtain ⟨c,s⟩:=cs
          cases s with
          | none=>have:=ho.gens c;rw [hren hr] at this;simpa [hr] using this
          | some n=>simp [(hfresh k c n hr).1,hr]
      mem:=fun k n mo hk=>by
        obtain ⟨c,hr⟩:=hm0 hk
        have h1:=hren hr
        rw [hk] at h1
        obtain ⟨g,m,k1,k2,k3⟩:=ho.mem c _ _ h1
        exact ⟨g,m,k1,by simpa [hr] using k2,by simpa [hr] using (MO.holds_ren hag).1 k3⟩
      apart:=fun k k' b hne h1 h2=>by
        cases hr:ρ k with
        | none=>simp [hr] at h1
        | some cs=>
          obtain ⟨c,s⟩:=cs
          cases s with
          | some n=>simp [hr] at h1
          | none=>
            cases hr':ρ k' with
            | none=>simp [hr'] at h2
            | some cs'=>
              obtain ⟨c',s'⟩:=cs'
              cases s' with
              | some n=>simp [hr'] at h2
              | none=>
                simp [hr] at h1;simp [hr'] at h2
                refine ho.apart c c' b (fun e=>hne ?_) h1 h2
                subst e
                have e1:=(hinv k c none).1 hr
                have e2:=(hinv k' c none).1 hr'
                rw [e1] at e2;simpa using e2
      stab:=fun k b hb hs=>by
        cases hr:ρ k with
        | none=>simp [hr] at hb
        | some cs=>
          obtain ⟨c,s⟩:=cs
          cases s with
          | some n=>simp [hr] at hb
          | none=>simp [hr] at hb;exact ho.stab c b hb hs
      own:=fun k b hb=>by
        cases hr:ρ k with
        | none=>simp [hr] at hb
        | some cs=>
          obtain ⟨c,s⟩:=cs
          cases s with
          | some n=>simp [hr] at hb
          | none=>simp [hr] at hb;exact ho.own c b hb
      sbd:=ho.sbd }
  · refine ⟨by have:=ha.1;simpa using this,fun i av v hav hv=>?_⟩
    exact (AV.holds_ren hag).1 (ha.2 i (av.ren ρ) v (by rw [List.getElem?_map,hav];rfl) hv)
  · rintro e w' ⟨v,G',rfl,hr,hobj,k1,k2,k3,k4,k5⟩
    have ob:∀ {k b},b∈(match ρ k with|some (c,none)=>G.φ c|_=>[])→∃ c,inL upds c∧b∈G.φ c:=fun {k b} hb=>by
      cases hr:ρ k with
      | none=>simp [hr] at hb
      | some cs=>
        obtain ⟨c,s⟩:=cs
        cases s with
        | some n=>simp [hr] at hb
        | none=>simp [hr] at hb;exact ⟨c,(hup c k none ((hinv k c none).1 hr)).1,hb⟩
    have hag':Agree ρ G'.μ (fun c=>match ρ' c with|some (k,none)=>G'.μ k|some (k,some n)=>G.μ c++G'.μ k|none=>G.μ c):=by
      refine ⟨fun k c hk=>by simp [(hinv k c none).1 hk],fun k c n hk g=>?_,fun k hk=>?_⟩
      · have h1:=hf _ (hfresh k c n hk).2
        have h2:=ho.gens c
        simp only at h1
        simp only [(hinv k c (some n)).1 hk]
        rw [List.getElem?_append_right (by omega)]
        congr 1;omega
      · have:=hobj.gens k
        rw [(hnone k hk).2] at this
        exact List.eq_nil_of_length_eq_zero this
    refine ⟨v,⟨fun c=>match ρ' c with|some (k,none)=>G'.μ k|some (k,some n)=>G.μ c++G'.μ k|none=>G.μ c,G'.S,fun c=>match ρ' c with|some (k,_)=>G'.φ k|none=>G.φ c⟩,rfl,(AV.holds_ren hag').2 hr,?_,k1,?_,?_,?_,?_⟩
    · have hle:Wd.le ⟨w,G.S⟩ ⟨w',G'.S⟩:=fun b hb=>⟨k1 b hb,k5.block b (ho.sbd b hb) fun ⟨k,hk⟩=>by
        obtain ⟨c,_,hc⟩:=ob hk
        exact ho.stab c b hc hb⟩
      have hmu:G.μ.le (fun c=>match ρ' c with|some (k,none)=>G'.μ k|some (k,some n)=>G.μ c++G'.μ k|none=>G.μ c):=fun c g x hx=>by
        cases hr':ρ' c with
        | none=>simpa [hr'] using hx
        | some ks=>
          obtain ⟨k,s⟩:=ks
          cases s with
          | none=>
            have h1:=(hinv k c none).2 hr'
            simp only [hr']
            exact k4 k g x (by simpa [h1] using hx)
          | some n=>
            simp only [hr']
            rw [List.getElem?_append_left (List.getElem?_eq_some_iff.1 hx).1];exact hx
      have out:∀ {c},ρ' c=none→∀ k,k∈G.φ c→w'.heap[k]?=w.heap[k]?:=fun {c} hc b hb=>k5.block b (ho.own c b hb) fun ⟨k,hk⟩=>by
        cases hr:ρ k with
        | none=>simp [hr] at hk
        | some cs=>
          obtain ⟨c',s⟩:=cs
          cases s with
          | some n=>simp [hr] at hk
          | none=>
            simp [hr] at hk
            refine ho.apart c c' b (fun e=>?_) hb hk
            subst e
            rw [(hinv k c none).1 hr] at hc;cases hc
      have fresh2:∀ {c k s b},ρ' c=some (k,s)→b∈G'.φ k→w.heap.size≤b∨∃ c',ρ' c'≠none∧b∈G.φ c':=fun {c k s b} hc hb=>by
        rcases k3 k b hb with h1 | ⟨k',h1⟩
        · exact .inl h1
        · right
          cases hr:ρ k' with
          | none=>simp [hr] at h1
          | some cs=>
            obtain ⟨c',s'⟩:=cs
            cases s' with
            | some n=>simp [hr] at h1
            | none=>simp [hr] at h1;exact ⟨c',by rw [(hinv k' c' none).1 hr];simp,h1⟩
      exact {
        gens:=fun c=>by
          cases hr':ρ' c with
          | none=>rw [putsM_out _ _ _ (hup' c hr')];simpa [hr'] using ho.gens c
          | some ks=>
            obtain ⟨k,s⟩:=ks
            rw [(hup c k s hr').2]
            cases s with
            | none=>simpa [hr'] using hobj.gens k
            | some n=>
              have h1:=hf _ (hfresh k c n ((hinv k c (some n)).2 hr')).2
              have h2:=ho.gens c
              simp only at h1
              simp [hr',hobj.gens k,h2,h1]
        mem:=fun c n mo hc=>by
          cases hr':ρ' c with
          | none=>
            rw [putsM_out _ _ _ (hup' c hr')] at hc
            obtain ⟨g,m,j1,j2,j3⟩:=ho.mem c n mo hc
            exact ⟨g,m,j1,by simpa [hr'] using j2,by simpa only [hr'] using j3.mono hmu hle (out hr')⟩
          | some ks=>
            obtain ⟨k,s⟩:=ks
            rw [(hup c k s hr').2] at hc
            cases hm1:m1 k with
            | mk n1 x=>
              cases x with
              | none=>rw [hm1] at hc;simp at hc
              | some mo1=>
                rw [hm1] at hc
                simp only [Option.map_some,Prod.mk.injEq,Option.some.injEq] at hc
                obtain ⟨rfl,rfl⟩:=hc
                obtain ⟨g,m,j1,j2,j3⟩:=hobj.mem k n1 mo1 hm1
                have j4:=(MO.holds_ren hag').2 j3
                cases s with
                | none=>exact ⟨g,m,by simp [j1],by simpa [hr'] using j2,by simpa only [hr'] using j4⟩
                | some n=>
                  have h1:=hf _ (hfresh k c n ((hinv k c (some n)).2 hr')).2
                  have h2:=ho.gens c
                  simp only at h1
                  refine ⟨n+g,m,by simp [j1];omega,?_,by simpa only [hr'] using j4⟩
                  simp only [hr']
                  rw [List.getElem?_append_right (by omega)]
                  rw [← j2];congr 1;omega
        apart:=fun c c' b hne h1 h2=>by
          cases hr:ρ' c with
          | none=>
            cases hr':ρ' c' with
            | none=>simp [hr] at h1;simp [hr'] at h2;exact ho.apart c c' b hne h1 h2
            | some ks=>
              obtain ⟨k,s⟩:=ks
              simp [hr] at h1;simp [hr'] at h2
              rcases fresh2 hr' h2 with h3 | ⟨c2,h3,h4⟩
              · have:=ho.own c b h1;omega
              · exact ho.apart c c2 b (fun e=>by subst e;exact h3 hr) h1 h4
          | some ks=>
            obtain ⟨k,s⟩:=ks
            cases hr':ρ' c' with
            | none=>
              simp [hr] at h1;simp [hr'] at h2
              rcases fresh2 hr h1 with h3 | ⟨c2,h3,h4⟩
              · have:=ho.own c' b h2;omega
              · exact ho.apart c' c2 b (fun e=>by subst e;exact h3 hr') h2 h4
            | some ks'=>
              obtain ⟨k',s'⟩:=ks'
              simp [hr] at h1;simp [hr'] at h2
              refine hobj.apart k k' b (fun e=>hne ?_) h1 h2
              subst e
              have e1:=(hinv k c s).2 hr
              have e2:=(hinv k c' s').2 hr'
              rw [e1] at e2;simp at e2;exact e2.1
        stab:=fun c b hb hs=>by
          cases hr:ρ' c with
          | none=>
            simp [hr] at hb
            rcases k2 b hs with h1|h1 | ⟨k,h1⟩
            · exact ho.stab c b hb h1
            · have:=ho.own c b hb;omega
            · cases hrk:ρ k with
              | none=>simp [hrk] at h1
              | some cs=>
                obtain ⟨c',s⟩:=cs
                cases s with
                | some n=>simp [hrk] at h1
                | none=>
                  simp [hrk] at h1
                  refine ho.apart c c' b (fun e=>?_) hb h1
                  subst e
                  rw [(hinv k c none).1 hrk] at hr;cases hr
          | some ks=>
            obtain ⟨k,s⟩:=ks
            simp [hr] at hb
            exact hobj.stab k b hb hs
        own:=fun c b hb=>by
          cases hr:ρ' c with
          | none=>simp [hr] at hb;exact Nat.lt_of_lt_of_le (ho.own c b hb) k5.size
          | some ks=>obtain ⟨k,s⟩:=ks;simp [hr] at hb;exact hobj.own k b hb
        sbd:=hobj.sbd }
    · intro b hb
      rcases k2 b hb with h1|h1 | ⟨k,h1⟩
      · exact .inl h1
      · exact .inr (.inl h1)
      · exact .inr (.inr (ob h1))
    · intro c b hb
      cases hr:ρ' c with
      | none=>simp [hr] at hb;exact .inl hb
      | some ks=>
        obtain ⟨k,s⟩:=ks
        simp [hr] at hb
        rcases k3 k b hb with h1 | ⟨k',h1⟩
        · exact .inr (.inl h1)
        · exact .inr (.inr (ob h1))
    · intro c g x hx
      cases hr':ρ' c with
      | none=>simpa [hr'] using hx
      | some ks=>
        obtain ⟨k,s⟩:=ks
        cases s with
        | none=>
          have h1:=(hinv k c none).2 hr'
          simp only [hr']
          exact k4 k g x (by simpa [h1] using hx)
        | some n=>
          simp only [hr']
          rw [List.getElem?_append_left (List.getElem?_eq_some_iff.1 hx).1];exact hx
    · exact ⟨k5.os,k5.tape,k5.output,k5.size,fun b hb hn=>k5.block b hb fun ⟨k,hk⟩=>hn (ob hk)⟩
end Go.Aw
