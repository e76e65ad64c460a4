/- The layer's texts Core, CoreB, CoreC, one behind the other. -/
import Derived.WalkKit
import Derived.Deep.Quiet
import Derived.Laws.CopyRow
import Derived.RangeFuncLeaves
import Derived.RangeFuncCalls
import Derived.OrdersIn
import Derived.LoopIn
/- THE ABSTRACT WALK, part 1: abstract values and states, what it means that a state stands for a frame and a world, and the rules for the forms of code. Nothing here speaks of a program. -/
namespace Go.Aw
open Go Go.RowKit
set_option linter.unusedVariables false
set_option linter.unusedSimpArgs false
structure Wd where
  w:World
  S:Nat→Prop
def Wd.le (x y:Wd):Prop:=∀ b,x.S b→y.S b∧y.w.heap[b]?=x.w.heap[b]?
theorem Wd.le.refl (x:Wd):x.le x:=fun _ h=>⟨h,rfl⟩
theorem Wd.le.trans {x y z:Wd} (h:x.le y) (k:y.le z):x.le z:=fun b hb=>⟨(k b (h b hb).1).1,((k b (h b hb).1).2).trans (h b hb).2⟩
structure PVal where
  holds:Wd→Value→Prop
  mono:∀ {x y v},x.le y→holds x v→holds y v
  one:∀ {x v},holds x v→v.oneCell'=true
def PVal.v (c:Value):PVal:=⟨fun _ v=>v=c∧c.oneCell'=true,fun _ h=>h,fun h=>by obtain ⟨rfl,h⟩:=h;exact h⟩
abbrev PVal.i (n:Int):PVal:=.v (.int .i64 n)
abbrev PVal.k (k:IntKind) (n:Int):PVal:=.v (.int k n)
abbrev PVal.b (b:Bool):PVal:=.v (.bool b)
def All2 {α β:Type} (R:α→β→Prop) (l:List α) (m:List β):Prop:=l.length=m.length∧∀ (i:Nat) a b,l[i]?=some a→m[i]?=some b→R a b
theorem All2.mono {α β:Type} {R R':α→β→Prop} {l:List α} {m:List β} (h:All2 R l m) (hr:∀ a b,R a b→R' a b):All2 R' l m:=⟨h.1,fun i a b h1 h2=>hr _ _ (h.2 i a b h1 h2)⟩
theorem All2.nil {α β:Type} {R:α→β→Prop}:All2 R [] []:=⟨rfl,fun i a b h _=>by simp at h⟩
theorem All2.cons {α β:Type} {R:α→β→Prop} {a:α} {b:β} {l:List α} {m:List β} (h:R a b) (k:All2 R l m):All2 R (a::l) (b::m):=by
  refine ⟨by simp [k.1],fun i x y hx hy=>?_⟩
  cases i with
  | zero=>simp at hx hy;subst hx;subst hy;exact h
  | succ i=>simp at hx hy;exact k.2 i x y hx hy
theorem All2.cons_inv {α β:Type} {R:α→β→Prop} {a:α} {l:List α} {m:List β} (h:All2 R (a::l) m):∃ b m',m=b::m'∧R a b∧All2 R l m':=by
  cases m with
  | nil=>have:=h.1;simp at this
  | cons b m'=>exact ⟨b,m',rfl,h.2 0 a b rfl rfl,⟨by have:=h.1;simpa using this,fun i x y hx hy=>h.2 (i+1) x y (by simpa using hx) (by simpa using hy)⟩⟩
theorem All2.nil_inv {α β:Type} {R:α→β→Prop} {m:List β} (h:All2 R [] m):m=[]:=by
  have:=h.1;simpa using this.symm
theorem All2.get {α β:Type} {R:α→β→Prop} {l:List α} {m:List β} (h:All2 R l m) {i:Nat} {a:α} (ha:l[i]?=some a):∃ b,m[i]?=some b∧R a b:=by
  have hi:i < l.length:=(List.getElem?_eq_some_iff.1 ha).1
  have hm:i < m.length:=by rw [← h.1];exact hi
  exact ⟨m[i],by simp [hm],h.2 i a m[i] ha (by simp [hm])⟩
theorem All2.append {α β:Type} {R:α→β→Prop} {l l':List α} {m m':List β} (h:All2 R l m) (k:All2 R l' m'):All2 R (l++l') (m++m'):=by
  refine ⟨by simp [h.1,k.1],fun i a b ha hb=>?_⟩
  by_cases hi:i < l.length
  · rw [List.getElem?_append_left hi] at ha
    rw [List.getElem?_append_left (h.1 ▸ hi)] at hb
    exact h.2 i a b ha hb
  · rw [List.getElem?_append_right (by omega)] at ha
    rw [List.getElem?_append_right (by rw [← h.1];omega),← h.1] at hb
    exact k.2 _ a b ha hb
theorem All2.take {α β:Type} {R:α→β→Prop} {l:List α} {m:List β} (h:All2 R l m) (n:Nat):All2 R (l.take n) (m.take n):=by
  refine ⟨by simp [h.1],fun i a b ha hb=>?_⟩
  rw [List.getElem?_take] at ha hb
  split at ha<;>simp_all
  rename_i hi
  exact h.2 i a b ha hb
theorem All2.drop {α β:Type} {R:α→β→Prop} {l:List α} {m:List β} (h:All2 R l m) (n:Nat):All2 R (l.drop n) (m.drop n):=
  ⟨by simp [h.1],fun i a b ha hb=>h.2 (n+i) a b (by simpa using ha) (by simpa using hb)⟩
def RowsAt (X:Wd) (cs:Array Value) (off es:Nat) (rows:List (List PVal)):Prop:=
  ∀ i row,rows[i]?=some row→row.length=es∧∀ j p,row[j]?=some p→∃ c,cs[off+i * es+j]?=some c∧p.holds X c
def PVal.sl (es:Nat) (rows:List (List PVal)) (ex:Bool):PVal where
  holds X v:=∃ base cap,v=.slice base rows.length cap∧rows.length≤cap∧cap≤maxLen∧(ex=true→cap=rows.length)∧
    match base with
    | none=>rows=[]∧cap=0
    | some a=>rows=[]∨(a.spot=none∧X.S a.block∧∃ cs ty fr,X.w.heap[a.block]?=some (.cells cs ty fr)∧RowsAt X cs a.off es rows)
  mono:=by
    rintro x y v hle ⟨base,cap,h1,h2,h3,h4,h5⟩
    refine ⟨base,cap,h1,h2,h3,h4,?_⟩
    cases base with
    | none=>exact h5
    | some a=>
      rcases h5 with h5 | ⟨g1,g2,cs,ty,fr,g3,g4⟩
      · exact .inl h5
      refine .inr ⟨g1,(hle _ g2).1,cs,ty,fr,(hle _ g2).2.trans g3,fun i row hr=>⟨(g4 i row hr).1,fun j p hp=>?_⟩⟩
      obtain ⟨c,hc,hh⟩:=(g4 i row hr).2 j p hp
      exact ⟨c,hc,p.mono hle hh⟩
  one:=by rintro x v ⟨base,cap,rfl,_⟩;rfl
inductive AC where
  | p (x:PVal)
  | ptr (o g off:Nat)
  | osl (o g es lo len:Nat)
  | asl (o g off len cap:Nat)
  | fn (f o g:Nat) (pre post:List PVal)
  | bm (f o g off:Nat)
abbrev Mu:=Nat→List (Option Nat × Nat)
def Mu.le (m m':Mu):Prop:=∀ (o g:Nat) x,(m o)[g]?=some x→(m' o)[g]?=some x
theorem Mu.le.refl (m:Mu):m.le m:=fun _ _ _ h=>h
theorem Mu.le.trans {a b c:Mu} (h:a.le b) (k:b.le c):a.le c:=fun o g x hx=>k o g x (h o g x hx)
def Mu.none:Mu:=fun _=>[]
theorem Mu.none_le (m:Mu):Mu.none.le m:=fun o g x h=>by simp [Mu.none] at h
def AC.holds (μ:Mu) (X:Wd):AC→Value→Prop
  | .p x,v=>x.holds X v
  | .ptr o g off,v=>∃ b c,(μ o)[g]?=some (some b,c)∧v=.pointer (some ⟨b,off,none⟩)
  | .osl o g es lo len,v=>∃ m c,(μ o)[g]?=some (m,c)∧lo+len≤c∧v=.slice (m.map fun b=>⟨b,lo * es,none⟩) len (c - lo)
  | .asl o g off len cap,v=>∃ b c,(μ o)[g]?=some (some b,c)∧v=.slice (some ⟨b,off,none⟩) len cap
  | .fn f o g pre post,v=>∃ (vs us:List Value) (b c:Nat),(μ o)[g]?=some (some b,c)∧v=.func (.func f) #[] (vs++.pointer (some ⟨b,0,none⟩)::us).toArray∧All2 (fun p c=>p.holds X c) pre vs∧All2 (fun p c=>p.holds X c) post us
  | .bm f o g off,v=>∃ b c,(μ o)[g]?=some (some b,c)∧v=.func (.func f) #[.pointer (some ⟨b,off,none⟩)] #[]
theorem AC.holds.mono {μ μ':Mu} {X Y:Wd} {c:AC} {v:Value} (h:c.holds μ X v) (hm:μ.le μ') (hl:X.le Y):c.holds μ' Y v:=by
  cases c with
  | p x=>exact x.mono hl h
  | ptr o g off=>obtain ⟨b,c,h1,h2⟩:=h;exact ⟨b,c,hm _ _ _ h1,h2⟩
  | osl o g es lo len=>obtain ⟨m,c,h1,h2⟩:=h;exact ⟨m,c,hm _ _ _ h1,h2⟩
  | asl o g off len cap=>obtain ⟨b,c,h1,h2⟩:=h;exact ⟨b,c,hm _ _ _ h1,h2⟩
  | fn f o g pre post=>obtain ⟨vs,us,b,c,h1,h2,h3,h4⟩:=h;exact ⟨vs,us,b,c,hm _ _ _ h1,h2,h3.mono fun p _ hp=>p.mono hl hp,h4.mono fun p _ hp=>p.mono hl hp⟩
  | bm f o g off=>obtain ⟨b,c,h1,h2⟩:=h;exact ⟨b,c,hm _ _ _ h1,h2⟩
theorem AC.holds.one {μ:Mu} {X:Wd} {c:AC} {v:Value} (h:c.holds μ X v):v.oneCell'=true:=by
  cases c with
  | p x=>exact x.one h
  | ptr o g off=>obtain ⟨b,c,h1,rfl⟩:=h;rfl
  | osl o g es lo len=>obtain ⟨m,c,h1,_,rfl⟩:=h;rfl
  | asl o g off len cap=>obtain ⟨b,c,h1,rfl⟩:=h;rfl
  | fn f o g pre post=>obtain ⟨vs,us,b,c,h1,rfl,_⟩:=h;rfl
  | bm f o g off=>obtain ⟨b,c,h1,rfl⟩:=h;rfl
inductive SV where
  | one (c:AC)
  | agg (cs:List AC)
def SV.holds (μ:Mu) (X:Wd):SV→Value→Prop
  | .one c,v=>c.holds μ X v
  | .agg cs,v=>∃ arr:List Value,v=.agg arr.toArray∧All2 (AC.holds μ X) cs arr
theorem SV.holds.mono {μ μ':Mu} {X Y:Wd} {c:SV} {v:Value} (h:c.holds μ X v) (hm:μ.le μ') (hl:X.le Y):c.holds μ' Y v:=by
  cases c with
  | one c=>exact AC.holds.mono h hm hl
  | agg cs=>obtain ⟨arr,rfl,h⟩:=h;exact ⟨arr,rfl,h.mono fun _ _ k=>k.mono hm hl⟩
def SV.cells:SV→List AC
  | .one c=>[c]
  | .agg cs=>cs
theorem SV.holds.cells {μ:Mu} {X:Wd} {c:SV} {v:Value} (h:c.holds μ X v):All2 (AC.holds μ X) c.cells v.cells.toList:=by
  cases c with
  | one c=>
    have h1:v.cells = #[v]:=by
      have:=AC.holds.one h
      cases v<;>simp_all [Value.oneCell',Value.cells]
    rw [h1];exact .cons h .nil
  | agg cs=>obtain ⟨arr,rfl,h⟩:=h;simpa [Value.cells,SV.cells] using h
inductive AV where
  | un
  | s (v:SV)
  | tup (vs:List SV)
abbrev AV.o (c:AC):AV:=.s (.one c)
abbrev AV.p (x:PVal):AV:=.s (.one (.p x))
abbrev AV.a (cs:List AC):AV:=.s (.agg cs)
def AV.holds (μ:Mu) (X:Wd):AV→Value→Prop
  | .un,_=>True
  | .s q,v=>q.holds μ X v
  | .tup vs,v=>∃ arr:List Value,v=.tuple arr.toArray∧All2 (SV.holds μ X) vs arr
theorem AV.holds.mono {μ μ':Mu} {X Y:Wd} {c:AV} {v:Value} (h:c.holds μ X v) (hm:μ.le μ') (hl:X.le Y):c.holds μ' Y v:=by
  cases c with
  | un=>trivial
  | s q=>exact SV.holds.mono (c:=q) h hm hl
  | tup vs=>obtain ⟨arr,rfl,h⟩:=h;exact ⟨arr,rfl,h.mono fun _ _ k=>k.mono hm hl⟩
structure AObj where
  holds:Wd→Nat→List Nat→Prop
  mono:∀ {x y b fp},x.le y→(∀ k,k∈fp→y.w.heap[k]?=x.w.heap[k]?)→holds x b fp→holds y b fp
inductive MO where
  | box (ty:TypeId) (cs:List AC)
  | buf (ty:TypeId) (es:Nat) (rows:List (List PVal))
  | frz (ty:TypeId) (es:Nat) (rows:List (List PVal))
  | abs (A:AObj)
def MO.holds (μ:Mu) (X:Wd):MO→Option Nat × Nat→List Nat→Prop
  | .box ty cs,m,fp=>∃ b arr,m.1=some b∧fp=[b]∧X.w.heap[b]?=some (.cells (List.toArray arr) ty (0,0))∧All2 (AC.holds μ X) cs arr
  | .buf ty es rows,m,fp=>0 < es∧m.2≤maxLen∧rows.length≤m.2∧((m.1=none∧m.2=0∧fp=[])∨
      ∃ b arr,m.1=some b∧fp=[b]∧X.w.heap[b]?=some (.cells arr ty (0,0))∧arr.size=m.2 * es∧RowsAt X arr 0 es rows)
  | .frz ty es rows,m,fp=>fp=[]∧m.2≤maxLen∧rows.length≤m.2∧((m.1=none∧m.2=0)∨
      ∃ b arr,m.1=some b∧X.S b∧X.w.heap[b]?=some (.cells arr ty (0,0))∧RowsAt X arr 0 es rows)
  | .abs A,m,fp=>∃ b,m.1=some b∧A.holds X b fp
theorem MO.holds.mono {μ μ':Mu} {X Y:Wd} {c:MO} {m:Option Nat × Nat} {fp:List Nat} (h:c.holds μ X m fp) (hm:μ.le μ') (hl:X.le Y) (hf:∀ k,k∈fp→Y.w.heap[k]?=X.w.heap[k]?) :
    c.holds μ' Y m fp:=by
  cases c with
  | box ty cs=>
    obtain ⟨b,arr,h1,h2,h3,h4⟩:=h
    exact ⟨b,arr,h1,h2,(hf b (by simp [h2])).trans h3,h4.mono fun _ _ k=>k.mono hm hl⟩
  | buf ty es rows=>
    obtain ⟨h0,h1,h2,h3⟩:=h
    refine ⟨h0,h1,h2,?_⟩
    rcases h3 with h3 | ⟨b,arr,g1,g2,g3,g4,g5⟩
    · exact .inl h3
    · refine .inr ⟨b,arr,g1,g2,(hf b (by simp [g2])).trans g3,g4,fun i row hr=>⟨(g5 i row hr).1,fun j p hp=>?_⟩⟩
      obtain ⟨c,hc,hh⟩:=(g5 i row hr).2 j p hp
      exact ⟨c,hc,p.mono hl hh⟩
  | frz ty es rows=>
    obtain ⟨h0,h1,h2,h3⟩:=h
    refine ⟨h0,h1,h2,?_⟩
    rcases h3 with h3 | ⟨b,arr,g1,g2,g3,g5⟩
    · exact .inl h3
    · refine .inr ⟨b,arr,g1,(hl b g2).1,(hl b g2).2.trans g3,fun i row hr=>⟨(g5 i row hr).1,fun j p hp=>?_⟩⟩
      obtain ⟨c,hc,hh⟩:=(g5 i row hr).2 j p hp
      exact ⟨c,hc,p.mono hl hh⟩
  | abs A=>obtain ⟨b,h1,h2⟩:=h;exact ⟨b,h1,A.mono hl hf h2⟩
structure St where
  env:Nat→AV
  mem:Nat→Nat × Option MO
def St.set (σ:St) (d:Option Nat) (v:AV):St:=
  match d with
  | none=>σ
  | some d=>{ σ with env:=fun t=>if t=d then v else σ.env t }
def St.put (σ:St) (o:Nat) (m:Nat × Option MO):St:={ σ with mem:=fun x=>if x=o then m else σ.mem x }
structure Ctx where
  P:Program
  w0:World
  F:Nat→Prop
  S0:Nat→Prop
  N:Nat
  ro:Option Nat
  M0:Mu
def fz (ro:Option Nat):Fence:={ Fence.wide with round:=ro }
def markOf (b:Nat):Deferred:={ target:=.collected b,args:=#[] }
structure Gh where
  μ:Mu
  S:Nat→Prop
  φ:Nat→List Nat
structure TL (w' w:World):Prop where
  eq:w'.tape=w.tape
  le:w.drawn≤w'.drawn
theorem TL.trans {a b c:World} (h:TL c b) (k:TL b a):TL c a:=⟨h.eq.trans k.eq,Nat.le_trans k.le h.le⟩
theorem TL.same {w' w:World} (h1:w'.tape=w.tape:=by rfl) (h2:w.drawn≤w'.drawn:=by first|exact Nat.le_refl _|exact Nat.le_add_right _ _|exact Nat.le_of_eq rfl):TL w' w:=⟨h1,h2⟩
structure Fr (C:Ctx) (w:World):Prop where
  os:w.os=C.w0.os
  tape:TL w C.w0
  output:w.output=C.w0.output
  size:C.w0.heap.size≤w.heap.size
  block:∀ k,k < C.w0.heap.size→¬ C.F k→w.heap[k]?=C.w0.heap[k]?
structure RelG (C:Ctx) (σ:St) (a:Act) (w:World) (G:Gh):Prop where
  size:a.tmps.size=C.N
  defers:∀ d,d∈a.defers→∃ b,d=markOf b∧C.w0.heap.size≤b∧b < w.heap.size∧w.heap[b]?=some (.deferred (some []))∧¬ G.S b∧∀ o,b ∉ G.φ o
  dnod:a.defers.Nodup
  mle:C.M0.le G.μ
  env:∀ t,(σ.env t).holds G.μ ⟨w,G.S⟩ (a.tmps.getD t undef)
  gens:∀ o,(G.μ o).length=(σ.mem o).1
  mem:∀ o n mo,σ.mem o=(n,some mo)→∃ g m,n=g+1∧(G.μ o)[g]?=some m∧mo.holds G.μ ⟨w,G.S⟩ m (G.φ o)
  apart:∀ o o' b,o≠o'→b∈G.φ o→b∈G.φ o'→False
  stab:∀ o b,b∈G.φ o→¬ G.S b
  own:∀ o b,b∈G.φ o→(C.w0.heap.size≤b∨C.F b)∧b < w.heap.size
  sbd:∀ b,G.S b→b < w.heap.size∧(C.S0 b∨C.w0.heap.size≤b∨C.F b)
  ssub:∀ b,C.S0 b→G.S b
  fr:Fr C w
def Rel (C:Ctx) (σ:St) (a:Act) (w:World):Prop:=∃ G,RelG C σ a w G
def AW (C:Ctx) (c:Code) (Q:Exit→St→Prop) (σ:St):Prop:=
  ∀ a w,Rel C σ a w→c.wpIn (fz C.ro) 0 C.P (fun e a' w'=>∃ σ',Q e σ'∧Rel C σ' a' w') a w
def AWs (C:Ctx):List Code→(Exit→St→Prop)→St→Prop
  | [],Q,σ=>Q .normal σ
  | c::k,Q,σ=>AW C c (fun e s=>match e with | .normal=>AWs C k Q s|e=>Q e s) σ
def blk (id:Nat) (K:St→Prop) (Q:Exit→St→Prop):Exit→St→Prop
  | .normal,σ=>K σ
  | .exit i,σ=>if i=id then K σ else Q (.exit i) σ
  | e,σ=>Q e σ
section rules
variable {C:Ctx} {Q:Exit→St→Prop} {σ:St} {c r x y:Code} {k:List Code}
theorem aw_mono {Q':Exit→St→Prop} (h:AW C c Q σ) (hq:∀ e s,Q e s→Q' e s):AW C c Q' σ:=
  fun a w hr=>wpIn_mono (h a w hr) fun e a' w' ⟨s,q,r⟩=>⟨s,hq _ _ q,r⟩
theorem aws_mono {Q':Exit→St→Prop} (hq:∀ e s,Q e s→Q' e s):∀ {k:List Code} {σ:St},AWs C k Q σ→AWs C k Q' σ
  | [],_,h=>hq _ _ h
  | _::_,_,h=>aw_mono h fun e s q=>by
    cases e with
    | normal=>exact aws_mono hq q
    | _=>exact hq _ _ q
theorem aws_one (h:AWs C [c] Q σ):AW C c Q σ:=aw_mono h fun e s q=>by cases e<;>exact q
theorem aws_seq (h:AWs C (x::y::k) Q σ):AWs C (.seq x y::k) Q σ:=by
  intro a w hr
  refine wpIn_seq (wpIn_mono (h a w hr) ?_)
  rintro e a' w' ⟨s,q,r⟩
  cases e with
  | normal=>exact q a' w' r
  | _=>exact ⟨s,q,r⟩
theorem aws_skip (h:AWs C k Q σ):AWs C (.skip::k) Q σ:=fun a w hr=>wpIn_skip ⟨σ,h,hr⟩
theorem aws_ret (h:Q .ret σ):AWs C (.ret::k) Q σ:=fun a w hr=>wpIn_ret ⟨σ,h,hr⟩
theorem aws_exit {id:Nat} (h:Q (.exit id) σ):AWs C (.exit id::k) Q σ:=fun a w hr=>wpIn_exit ⟨σ,h,hr⟩
theorem aws_goto {l:Nat} (h:Q (.goto l) σ):AWs C (.goto l::k) Q σ:=fun a w hr=>wpIn_goto ⟨σ,h,hr⟩
theorem aws_label {l:Nat} (h:AWs C k Q σ):AWs C (.label l::k) Q σ:=fun a w hr=>wpIn_label ⟨σ,h,hr⟩
theorem aws_block {id:Nat} (h:AWs C [c] (blk id (AWs C k Q) Q) σ):AWs C (.block id c::k) Q σ:=by
  intro a w hr
  refine wpIn_block (wpIn_mono (h a w hr) ?_)
  rintro e a' w' ⟨s,q,r⟩
  cases e with
  | exit i=>
    by_cases hi:i=id
    · subst hi
      simp only [Exit.inBlock,if_true]
      have q':AWs C k Q s:=by simpa [blk] using q
      exact ⟨s,q',r⟩
    · simp only [Exit.inBlock,hi,if_false]
      have q':Q (.exit i) s:=by simpa [blk,hi] using q
      exact ⟨s,q',r⟩
  | normal=>exact ⟨s,q,r⟩
  | _=>exact ⟨s,q,r⟩
theorem blk_normal {id:Nat} {K:St→Prop} (h:K σ):blk id K Q .normal σ:=h
theorem blk_exit {id:Nat} {K:St→Prop} (h:K σ):blk id K Q (.exit id) σ:=by simpa [blk] using h
theorem blk_ret {id:Nat} {K:St→Prop} (h:Q .ret σ):blk id K Q .ret σ:=h
theorem aw_loop {ι:Type} (I:ι→St→Prop) (m:ι→Nat) (i₀:ι) (h₀:I i₀ σ)
    (round:∀ i s,I i s→AW C c (fun e s'=>match e with | .normal=>∃ j,m j < m i∧I j s'|e=>Q e s') s):AW C (.loop c) Q σ:=by
  intro a w hr b k cs hro hb hroom
  have key:∀ n i s a w,m i=n→I i s→Rel C s a w→
      ∃ e a' w',(∃ σ',Q e σ'∧Rel C σ' a' w')∧ArrivesIn (Machine.fenced C.P (fz C.ro)) C.P (lone (b.atR a (.code c::.inLoop c::k)) cs w) b k cs e a' w':=by
    intro n
    induction n using Nat.strongRecOn with
    | _ n ih=>
      intro i s a w hn hI hr
      obtain ⟨e,a₁,w₁,⟨s₁,hq,hr₁⟩,harr⟩:=round i s hI a w hr b (.inLoop c::k) cs hro hb hroom
      cases e with
      | normal=>
        obtain ⟨j,hlt,hI₁⟩:=hq
        obtain ⟨e₂,a₂,w₂,hq₂,harr₂⟩:=ih (m j) (hn ▸ hlt) j s₁ a₁ w₁ rfl hI₁ hr₁
        exact ⟨e₂,a₂,w₂,hq₂,.of_steps (StepsIn.trans harr (.one (fenced_calm hb hroom rfl) stepR_inLoop)) harr₂⟩
      | exit id=>exact ⟨_,a₁,w₁,⟨s₁,hq,hr₁⟩,.pass (x:=.inLoop c) rfl (fun _ _=>.inl (by simp)) harr⟩
      | goto l=>exact ⟨_,a₁,w₁,⟨s₁,hq,hr₁⟩,.pass (x:=.inLoop c) rfl (fun _ _=>.inl (by simp)) harr⟩
      | ret=>exact ⟨_,a₁,w₁,⟨s₁,hq,hr₁⟩,.pass (x:=.inLoop c) rfl (fun _ _=>.inl (by simp)) harr⟩
      | panic ch=>exact ⟨_,a₁,w₁,⟨s₁,hq,hr₁⟩,.pass (x:=.inLoop c) rfl (fun _ _=>.inl (by simp)) harr⟩
      | outgrown=>exact ⟨_,a₁,w₁,⟨s₁,hq,hr₁⟩,.pass (x:=.inLoop c) rfl (fun _ _=>.inl (by simp)) harr⟩
  obtain ⟨e,a',w',hq,harr⟩:=key _ i₀ σ a w rfl h₀ hr
  exact ⟨e,a',w',hq,.of_steps (.one (fenced_calm hb hroom rfl) stepR_loop) harr⟩
theorem aws_loop {ι:Type} {id:Nat} (I:ι→St→Prop) (m:ι→Nat) (i₀:ι) (h₀:I i₀ σ)
    (round:∀ i s,I i s→AWs C [c] (fun e s'=>match e with | .normal=>∃ j,m j < m i∧I j s'|e=>blk id (AWs C k Q) Q e s') s):AWs C (.block id (.loop c)::k) Q σ:=
  aws_block (aw_mono (aw_loop (Q:=blk id (AWs C k Q) Q) I m i₀ h₀ fun i s hI=>aw_mono (aws_one (round i s hI)) fun e s' q=>by cases e<;>exact q) fun e s' q=>by cases e<;>exact q)
theorem aws_cond {cd:Operand} {t:Bool} (hc:∀ G a w,RelG C σ a w G→a.eval cd=.bool t) (ht:t=true→AWs C (x::k) Q σ) (hf:t=false→AWs C (y::k) Q σ) :
    AWs C (.cond cd x y::k) Q σ:=by
  intro a w hr
  obtain ⟨G,hG⟩:=hr
  refine wpIn_cond_split (hc G a w hG) (fun h=>?_) (fun h=>?_)
  · exact ht h a w ⟨G,hG⟩
  · exact hf h a w ⟨G,hG⟩
end rules
end Go.Aw
/- THE ABSTRACT WALK, part 2: how a state goes on; operations; regions, drawn or not; contracts and calls. Nothing here speaks of a program. -/
namespace Go.Aw
open Go Go.RowKit
set_option linter.unusedVariables false
set_option linter.unusedSimpArgs false
def dOk (C:Ctx) (d:Option Nat):Bool:=match d with|none=>true|some d=>Nat.ble (d+1) C.N
section upd
variable {C:Ctx} {σ:St} {a:Act} {w w':World} {G:Gh}
theorem RelG.setv (h:RelG C σ a w G) {d:Option Nat} {val:AV} {v:Value} (hd:dOk C d=true) (hv:val.holds G.μ ⟨w,G.S⟩ v):RelG C (σ.set d val) (a.put d v) w G:=by
  cases d with
  | none=>exact h
  | some d=>
    have hdn:d < a.tmps.size:=by rw [h.size];have:=Nat.le_of_ble_eq_true hd;omega
    exact { h with
      size:=by simp [Act.put,h.size]
      env:=fun t=>by
        simp only [St.set,Act.put]
        by_cases ht:t=d
        · subst ht;simpa [hdn] using hv
        · have:=h.env t
          simp only [ht,if_false]
          have e:(a.tmps.setIfInBounds d v).getD t undef=a.tmps.getD t undef:=by
            simp [Array.getElem?_setIfInBounds_ne (fun e=>ht e.symm)]
          rw [e];exact this }
structure Quiet (w w':World):Prop where
  os:w'.os=w.os
  tape:TL w' w
  output:w'.output=w.output
  size:w.heap.size≤w'.heap.size
  block:∀ k,k < w.heap.size→w'.heap[k]?=w.heap[k]?
theorem Quiet.refl (w:World):Quiet w w:=⟨rfl,.same,rfl,Nat.le_refl _,fun _ _=>rfl⟩
theorem Quiet.drew (w:World):Quiet w w.drew:=⟨rfl,.same,rfl,Nat.le_refl _,fun _ _=>rfl⟩
theorem Quiet.of_below (h:Below w.heap.size w w') (hd:w.drawn≤w'.drawn):Quiet w w':=⟨h.os,⟨h.tape,hd⟩,h.output,h.size,h.block⟩
theorem Quiet.alloc (w:World) (o:Obj):Quiet w (w.alloc o):=⟨rfl,.same,rfl,by simp,fun k hk=>Below.heap_alloc w o k hk⟩
theorem RelG.wle (h:RelG C σ a w G) {S':Nat→Prop} (hs:∀ b,G.S b→S' b) (hb:∀ k,k < w.heap.size→G.S k→w'.heap[k]?=w.heap[k]?):Wd.le ⟨w,G.S⟩ ⟨w',S'⟩:=
  fun b hb'=>⟨hs b hb',hb b (h.sbd b hb').1 hb'⟩
theorem RelG.world (h:RelG C σ a w G) (hw:Quiet w w') (T:Nat→Prop) (hT:∀ b,T b→w.heap.size≤b∧b < w'.heap.size) :
    RelG C σ a w' { G with S:=fun b=>G.S b∨T b }:=by
  have hle:Wd.le ⟨w,G.S⟩ ⟨w',fun b=>G.S b∨T b⟩:=h.wle (fun _=>.inl) (fun k hk _=>hw.block k hk)
  exact {
    size:=h.size
    defers:=fun d hd=>by
      obtain ⟨b,rfl,h1,h2,h3,h4,h5⟩:=h.defers d hd
      exact ⟨b,rfl,h1,Nat.lt_of_lt_of_le h2 hw.size,(hw.block b h2).trans h3,fun hs=>hs.elim h4 fun ht=>absurd (hT b ht).1 (by omega),h5⟩
    dnod:=h.dnod
    mle:=h.mle
    env:=fun t=>(h.env t).mono (Mu.le.refl _) hle
    gens:=h.gens
    mem:=fun o n mo ho=>by
      obtain ⟨g,m,hn,hm,hh⟩:=h.mem o n mo ho
      exact ⟨g,m,hn,hm,hh.mono (Mu.le.refl _) hle fun k hk=>hw.block k (h.own o k hk).2⟩
    apart:=h.apart
    stab:=fun o b hb hs=>by
      rcases hs with hs|hs
      · exact h.stab o b hb hs
      · have:=(h.own o b hb).2;have:=(hT b hs).1;omega
    own:=fun o b hb=>⟨(h.own o b hb).1,Nat.lt_of_lt_of_le (h.own o b hb).2 hw.size⟩
    sbd:=fun b hb=>by
      rcases hb with hb|hb
      · exact ⟨Nat.lt_of_lt_of_le (h.sbd b hb).1 hw.size,(h.sbd b hb).2⟩
      · exact ⟨(hT b hb).2,.inr (.inl (Nat.le_trans h.fr.size (hT b hb).1))⟩
    ssub:=fun b hb=>.inl (h.ssub b hb)
    fr:=⟨hw.os.trans h.fr.os,hw.tape.trans h.fr.tape,hw.output.trans h.fr.output,Nat.le_trans h.fr.size hw.size,fun k hk hf=>(hw.block k (Nat.lt_of_lt_of_le hk h.fr.size)).trans (h.fr.block k hk hf)⟩ }
theorem RelG.world' (h:RelG C σ a w G) (hw:Quiet w w'):RelG C σ a w' G:=by
  have:=h.world hw (fun _=>False) (fun _ h=>h.elim)
  have e:(fun b=>G.S b∨False)=G.S:=by funext b;simp
  simpa [e] using this
theorem RelG.upd (h:RelG C σ a w G) {o n':Nat} {mo':Option MO} {μo:List (Option Nat × Nat)} {fp':List Nat}
    (hμ:∀ (g:Nat) x,(G.μ o)[g]?=some x→μo[g]?=some x) (hlen:μo.length=n')
    (hos:w'.os=w.os) (htp:TL w' w) (hout:w'.output=w.output) (hsz:w.heap.size≤w'.heap.size)
    (hblk:∀ k,k < w.heap.size→k ∉ G.φ o→w'.heap[k]?=w.heap[k]?)
    (hfp:∀ b,b∈fp'→(b∈G.φ o∨w.heap.size≤b)∧b < w'.heap.size)
    (hmo:∀ mo,mo'=some mo→∃ g m,n'=g+1∧μo[g]?=some m∧mo.holds (fun x=>if x=o then μo else G.μ x) ⟨w',G.S⟩ m fp') :
    RelG C (σ.put o (n',mo')) a w' ⟨fun x=>if x=o then μo else G.μ x,G.S,fun x=>if x=o then fp' else G.φ x⟩:=by
  have hmu:G.μ.le (fun x=>if x=o then μo else G.μ x):=fun x g y hy=>by
    by_cases hx:x=o
    · subst hx;simpa using hμ g y hy
    · simpa [hx] using hy
  have hle:Wd.le ⟨w,G.S⟩ ⟨w',G.S⟩:=h.wle (fun _ hb=>hb) (fun k hk hs=>hblk k hk fun hin=>h.stab o k hin hs)
  exact {
    size:=h.size
    defers:=fun d hd=>by
      obtain ⟨b,rfl,h1,h2,h3,h4,h5⟩:=h.defers d hd
      refine ⟨b,rfl,h1,Nat.lt_of_lt_of_le h2 hsz,(hblk b h2 (h5 o)).trans h3,h4,fun x hx=>?_⟩
      by_cases hxo:x=o<;>simp only [hxo,if_true,if_false] at hx
      · rcases (hfp b hx).1 with hb|hb
        · exact h5 o hb
        · omega
      · exact h5 x hx
    dnod:=h.dnod
    mle:=h.mle.trans hmu
    env:=fun t=>(h.env t).mono hmu hle
    gens:=fun x=>by
      by_cases hx:x=o
      · subst hx;simpa [St.put] using hlen
      · simpa [St.put,hx] using h.gens x
    mem:=fun x n mo hx=>by
      by_cases hxo:x=o
      · subst hxo
        simp only [St.put,if_true,Prod.mk.injEq] at hx
        obtain ⟨rfl,hx⟩:=hx
        simpa using hmo mo hx
      · simp only [St.put,hxo,if_false] at hx
        obtain ⟨g,m,hn,hm,hh⟩:=h.mem x n mo hx
        refine ⟨g,m,hn,by simpa [hxo] using hm,?_⟩
        simp only [hxo,if_false]
        exact hh.mono hmu hle fun k hk=>hblk k (h.own x k hk).2 fun hin=>h.apart x o k hxo hk hin
    apart:=fun x y b hxy hbx hby=>by
      by_cases hx:x=o<;>by_cases hy:y=o<;>simp only [hx,hy,if_true,if_false] at hbx hby
      · exact hxy (hx.trans hy.symm)
      · rcases (hfp b hbx).1 with hb|hb
        · exact h.apart o y b (fun e=>hy e.symm) hb hby
        · have:=(h.own y b hby).2;omega
      · rcases (hfp b hby).1 with hb|hb
        · exact h.apart x o b hx hbx hb
        · have:=(h.own x b hbx).2;omega
      · exact h.apart x y b hxy hbx hby
    stab:=fun x b hb hs=>by
      by_cases hx:x=o<;>simp only [hx,if_true,if_false] at hb
      · rcases (hfp b hb).1 with hb'|hb'
        · exact h.stab o b hb' hs
        · have:=(h.sbd b hs).1;omega
      · exact h.stab x b hb hs
    own:=fun x b hb=>by
      by_cases hx:x=o<;>simp only [hx,if_true,if_false] at hb
      · refine ⟨?_,(hfp b hb).2⟩
        rcases (hfp b hb).1 with hb'|hb'
        · exact (h.own o b hb').1
        · exact .inl (Nat.le_trans h.fr.size hb')
      · exact ⟨(h.own x b hb).1,Nat.lt_of_lt_of_le (h.own x b hb).2 hsz⟩
    sbd:=fun b hb=>⟨Nat.lt_of_lt_of_le (h.sbd b hb).1 hsz,(h.sbd b hb).2⟩
    ssub:=h.ssub
    fr:=⟨hos.trans h.fr.os,htp.trans h.fr.tape,hout.trans h.fr.output,Nat.le_trans h.fr.size hsz,fun k hk hf=>by
      refine (hblk k (Nat.lt_of_lt_of_le hk h.fr.size) fun hin=>?_).trans (h.fr.block k hk hf)
      rcases (h.own o k hin).1 with h1|h1
      · omega
      · exact hf h1⟩ }
theorem RelG.freeze (h:RelG C σ a w G) {o n:Nat} {mo mo':Option MO} (hm:σ.mem o=(n,mo))
    (hmo:∀ x,mo'=some x→∃ g m,n=g+1∧(G.μ o)[g]?=some m∧x.holds G.μ ⟨w,fun b=>G.S b∨b∈G.φ o⟩ m []) :
    RelG C (σ.put o (n,mo')) a w ⟨G.μ,fun b=>G.S b∨b∈G.φ o,fun x=>if x=o then [] else G.φ x⟩:=by
  have hle:Wd.le ⟨w,G.S⟩ ⟨w,fun b=>G.S b∨b∈G.φ o⟩:=fun b hb=>⟨.inl hb,rfl⟩
  exact {
    size:=h.size
    defers:=fun d hd=>by
      obtain ⟨b,rfl,h1,h2,h3,h4,h5⟩:=h.defers d hd
      refine ⟨b,rfl,h1,h2,h3,fun hs=>hs.elim h4 (h5 o),fun x hx=>?_⟩
      by_cases hxo:x=o<;>simp [hxo] at hx
      exact h5 x hx
    dnod:=h.dnod
    mle:=h.mle
    env:=fun t=>(h.env t).mono (Mu.le.refl _) hle
    gens:=fun x=>by
      by_cases hx:x=o
      · subst hx;have:=h.gens x;rw [hm] at this;simpa [St.put] using this
      · simpa [St.put,hx] using h.gens x
    mem:=fun x k mo' hx=>by
      by_cases hxo:x=o
      · subst hxo
        simp only [St.put,if_true,Prod.mk.injEq] at hx
        obtain ⟨rfl,hx⟩:=hx
        simpa using hmo _ hx
      · simp only [St.put,hxo,if_false] at hx
        obtain ⟨g,m,hn,hm',hh⟩:=h.mem x k mo' hx
        exact ⟨g,m,hn,hm',by simpa [hxo] using hh.mono (Mu.le.refl _) hle fun _ _=>rfl⟩
    apart:=fun x y b hxy hbx hby=>by
      by_cases hx:x=o<;>by_cases hy:y=o<;>simp [hx,hy] at hbx hby
      exact h.apart x y b hxy hbx hby
    stab:=fun x b hb hs=>by
      by_cases hx:x=o<;>simp [hx] at hb
      rcases hs with hs|hs
      · exact h.stab x b hb hs
      · exact h.apart x o b hx hb hs
    own:=fun x b hb=>by
      by_cases hx:x=o<;>simp [hx] at hb
      exact h.own x b hb
    sbd:=fun b hb=>by
      rcases hb with hb|hb
      · exact h.sbd b hb
      · exact ⟨(h.own o b hb).2,.inr (h.own o b hb).1⟩
    ssub:=fun b hb=>.inl (h.ssub b hb)
    fr:=h.fr }
end upd
/-! ### Operands and operations -/
def constAV (v:Value):AV:=match v with
  | .agg _=>.un
  | .tuple _=>.un
  | v=>.p (.v v)
def St.look (σ:St):Operand→AV
  | .tmp t=>σ.env t
  | .const v=>constAV v
  | .global _=>.un
  | .func f=>.p (.v (.func (.func f) #[] #[]))
theorem constAV_holds (μ:Mu) (X:Wd) (v:Value):(constAV v).holds μ X v:=by
  cases v<;>simp [constAV,AV.holds,SV.holds,AC.holds,PVal.v,Value.oneCell']
theorem RelG.look {C:Ctx} {σ:St} {a:Act} {w:World} {G:Gh} (h:RelG C σ a w G) (x:Operand):(σ.look x).holds G.μ ⟨w,G.S⟩ (a.eval x):=by
  cases x with
  | tmp t=>exact h.env t
  | const v=>exact constAV_holds _ _ v
  | global g=>trivial
  | func f=>simp [St.look,AV.holds,SV.holds,AC.holds,PVal.v,Value.oneCell',Act.eval]
structure Eff where
  val:AV
  obj:List (Nat × (Nat × Option MO)):=[]
def St.puts (σ:St):List (Nat × (Nat × Option MO))→St
  | []=>σ
  | (o,m)::l=>(σ.puts l).put o m
def Eff.app (e:Eff) (d:Option Nat) (σ:St):St:=(σ.puts e.obj).set d e.val
theorem wpIn_exec {ro:Option Nat} {P:Program} {o:Oper} {a:Act} {w:World} {K:Act→World→Prop} {Q:Exit→Act→World→Prop} (hd:∀ c,o.op≠.defer c)
    (h:o.uponIn (fz ro) 0 P a K Q ((execOp a.eval o).run P w)):o.wpIn (fz ro) 0 P a w K Q:=by
  refine ⟨fun _ _=>trivial,?_⟩
  cases ro with
  | none=>exact h
  | some l=>show o.uponIn _ _ _ _ _ _ ((o.semAt (some l) a.eval).run P w);rw [Oper.semAt_some l a.eval o hd];exact h
theorem notDefer {P:Program} {o:Oper} {ρ:Operand→Value} {w w':World} {nx:Next} (h:(execOp ρ o).run P w=.ok nx w') (hn:∀ d,nx≠.defer d):∀ c,o.op≠.defer c:=by
  intro c hc
  simp only [execOp,hc,Sem.run_bind] at h
  generalize (resolve ρ c o.type).run P w=r at h
  cases r with
  | ok d w1=>simp [Result.andThen] at h;exact hn _ h.1.symm
  | halt x w1=>simp [Result.andThen] at h
def OpOk (C:Ctx) (o:Oper) (σ σ':St):Prop:=
  ∀ a w,Rel C σ a w→∀ (K:Act→World→Prop) (Q:Exit→Act→World→Prop),(∀ a' w',Rel C σ' a' w'→K a' w')→o.wpIn (fz C.ro) 0 C.P a w K Q
def LOp (C:Ctx) (o:Oper) (σ:St) (e:Eff) (ro:Nat→Bool):Prop:=
  (∀ x m,(x,m)∈e.obj→ro x=true)∧
  ∀ τ:St,(∀ x,x∈o.op.operands→τ.look x=σ.look x)→(∀ x,ro x=true→τ.mem x=σ.mem x)→OpOk C o τ (e.app o.dst τ)
theorem LOp.ok {C:Ctx} {o:Oper} {σ:St} {e:Eff} {ro:Nat→Bool} (h:LOp C o σ e ro):OpOk C o σ (e.app o.dst σ):=h.2 σ (fun _ _=>rfl) (fun _ _=>rfl)
def Guard (ops:Array Oper) (σ:St) (o:Oper) (r:Bool):Prop:=
  match o.guard with
  | none=>r=true
  | some (j,want)=>∃ t,(ops[j]?).bind (·.dst)=some t∧((∃ b,σ.env t=.p (.v (.bool b))∧r=(b == want))∨(σ.env t=.tup []∧r=false))
theorem Guard.wanted {C:Ctx} {ops:Array Oper} {σ:St} {o:Oper} {r:Bool} (h:Guard ops σ o r) {a:Act} {w:World} {G:Gh} (hr:RelG C σ a w G) :
    Region.wanted o (yielded ops a.tmps)=r:=by
  unfold Guard at h
  unfold Region.wanted
  cases hg:o.guard with
  | none=>simp only [hg] at h;exact h.symm
  | some jw=>
    obtain ⟨j,want⟩:=jw
    simp only [hg] at h
    obtain ⟨t,h1,⟨b,h2,rfl⟩ | ⟨h2,rfl⟩⟩:=h
    · have h3:=hr.env t
      rw [h2] at h3
      simp only [AV.holds,SV.holds,AC.holds,PVal.v] at h3
      have h4:a.tmps[t]?=some (.bool b):=by
        have h5:=h3.1
        simp only [Array.getD_eq_getD_getElem?] at h5
        cases h6:a.tmps[t]? with
        | none=>rw [h6] at h5;simp [undef] at h5
        | some v=>rw [h6] at h5;simp at h5;rw [h5]
      simp [yielded,h1,h4]
    · have h3:=hr.env t
      rw [h2] at h3
      obtain ⟨arr,h5,h6⟩:=h3
      obtain rfl:=h6.nil_inv
      simp only [Array.getD_eq_getD_getElem?] at h5
      cases h7:a.tmps[t]? with
      | none=>simp [yielded,h1,h7]
      | some v=>rw [h7] at h5;simp at h5;simp [yielded,h1,h7,h5]
theorem undef_holds {μ:Mu} {X:Wd}:(AV.tup []).holds μ X undef:=⟨[],rfl,.nil⟩
def RunN (C:Ctx) (ops:Array Oper):List Oper→(St→Prop)→St→Prop
  | [],K,σ=>K σ
  | o::rest,K,σ=>(Guard ops σ o true∧∃ σ',OpOk C o σ σ'∧RunN C ops rest K σ')∨(Guard ops σ o false∧dOk C o.dst=true∧RunN C ops rest K (σ.set o.dst (.tup [])))
theorem runN_sound {C:Ctx} {ops:Array Oper} {Q:Exit→Act→World→Prop}:∀ (l:List Oper) {K:St→Prop} {σ:St},RunN C ops l K σ→
    (∀ σ a w,K σ→Rel C σ a w→Q .normal a w)→∀ a w,Rel C σ a w→wpListIn (fz C.ro) 0 C.P ops Q l a w
  | [],K,σ,h,hK,a,w,hr=>hK _ _ _ h hr
  | o::rest,K,σ,h,hK,a,w,hr=>by
    obtain ⟨G,hG⟩:=hr
    unfold wpListIn
    rcases h with ⟨hg,σ',h1,h2⟩ | ⟨hg,hd,h2⟩
    · rw [hg.wanted hG,if_pos rfl]
      exact h1 a w ⟨G,hG⟩ _ _ fun a' w' hr'=>runN_sound rest h2 hK a' w' hr'
    · rw [hg.wanted hG]
      simp only [Bool.false_eq_true,if_false]
      exact ⟨fun _ _=>trivial,runN_sound rest h2 hK _ _ ⟨G,hG.setv hd undef_holds⟩⟩
theorem aws_region {C:Ctx} {id:Nat} {l:List Oper} {k:List Code} {Q:Exit→St→Prop} {σ:St} (h:RunN C l.toArray l (AWs C k Q) σ):AWs C (.region id l.toArray false::k) Q σ:=by
  intro a w hr
  exact wpIn_region_lit (runN_sound l h (fun σ a w hK hr=>⟨σ,hK,hr⟩) a w hr)
/-! ### A region that draws its order -/
def edge (ops:Array Oper) (a b:Nat):Bool:=match ops[b]? with|some o=>o.after.any (fun e=>Region.binds .any e&&e.on == a)|none=>false
def reach (ops:Array Oper):Nat→Nat→Nat→Bool
  | 0,_,_=>false
  | n+1,a,b=>match ops[b]? with|some o=>o.after.any (fun e=>Region.binds .any e&&(e.on == a||Nat.blt a e.on&&reach ops n a e.on))|none=>false
def Shut (ops:Array Oper) (listed:Array Bool):Prop:=∀ b ob,ops[b]?=some ob→listed.getD b false=true→∀ e∈ob.after,Region.binds .any e=true→listed.getD e.on false=true
theorem Shut.set {ops:Array Oper} {l:Array Bool} (h:Shut ops l) {j:Nat} {oj:Oper} (hj:ops[j]?=some oj) (hall:∀ e∈oj.after,Region.binds .any e=true→l.getD e.on false=true):Shut ops (l.setIfInBounds j true):=by
  intro b ob hb hl e he hbi
  by_cases hbj:j=b
  · subst hbj
    rw [hj] at hb;obtain rfl:=Option.some.inj hb
    exact getD_set_true (hall e he hbi)
  · rw [getD_set_ne false hbj] at hl
    exact getD_set_true (h b ob hb hl e he hbi)
theorem noreach {ops:Array Oper} {l:Array Bool} (h:Shut ops l) {i:Nat} (hi:l.getD i true=false):∀ (n b:Nat) ob,ops[b]?=some ob→(∀ e∈ob.after,Region.binds .any e=true→l.getD e.on false=true)→reach ops n i b=false
  | 0,_,_,_,_=>rfl
  | n+1,b,ob,hb,hall=>by
    unfold reach
    simp only [hb]
    rw [Bool.eq_false_iff]
    intro hc
    obtain ⟨e,he,hx⟩:=Array.any_eq_true'.1 hc
    simp only [Bool.and_eq_true,Bool.or_eq_true,beq_iff_eq] at hx
    have hl:=hall e he hx.1
    rcases hx.2 with k|k
    · rw [k] at hl
      rcases Nat.lt_or_ge i l.size with h'|h'
      · simp [h'] at hi hl;rw [hi] at hl;cases hl
      · simp [Array.getElem?_eq_none h'] at hl
    · have k:=k.2
      cases hq:ops[e.on]? with
      | none=>
        cases n with
        | zero=>cases k
        | succ n=>unfold reach at k;simp [hq] at k
      | some oe=>rw [noreach h hi n e.on oe hq (h e.on oe hq hl)] at k;cases k
def okObj (ops:Array Oper) (W:List (Nat × Nat)) (i:Nat) (x:Nat):Bool:=W.all (fun p=>p.2 != x||p.1 == i||edge ops p.1 i||edge ops i p.1||Nat.blt p.1 i&&reach ops 30 p.1 i||Nat.blt i p.1&&reach ops 30 i p.1)
def Yld (C:Ctx) (ops:Array Oper) (W:List (Nat × Nat)) (i:Nat) (o:Oper) (e:Eff) (σ:St):Prop:=
  (Guard ops σ o true∧dOk C o.dst=true∧∃ ro,LOp C o σ e ro∧(∀ x,ro x=true→okObj ops W i x=true)∧(∀ x m,(x,m)∈e.obj→(i,x)∈W))∨
  (Guard ops σ o false∧dOk C o.dst=true∧e=⟨.tup [],[]⟩)
def RunK (C:Ctx) (ops:Array Oper) (W:List (Nat × Nat)):Nat→List Oper→(St→Prop)→St→Prop
  | _,[],K,σ=>K σ
  | i,o::rest,K,σ=>∃ e,Yld C ops W i o e σ∧RunK C ops W (i+1) rest K (e.app o.dst σ)
def KAny (C:Ctx) (ops:Array Oper) (W:List (Nat × Nat)) (K:St→Prop):Nat→Array Bool→St→Prop
  | 0,listed,σ=>Region.ready .any ops listed=[]∧K σ
  | fuel+1,listed,σ=>(Region.ready .any ops listed=[]→K σ)∧
    ∀ i∈Region.ready .any ops listed,∃ o,ops[i]?=some o∧∃ e,Yld C ops W i o e σ∧KAny C ops W K fuel (listed.setIfInBounds i true) (e.app o.dst σ)
section draws
variable {C:Ctx} {ops:Array Oper} {W:List (Nat × Nat)}
theorem kAny_sound {K:St→Prop} {Q:Exit→Act→World→Prop} (hK:∀ σ a w,K σ→Rel C σ a w→Q .normal a w):∀ (fuel:Nat) (listed:Array Bool) (σ:St) (a:Act) (w:World),
    KAny C ops W K fuel listed σ→Rel C σ a w→wpAnyIn (fz C.ro) 0 C.P .any ops Q fuel listed a w
  | 0,listed,σ,a,w,h,hr=>⟨h.1,hK _ _ _ h.2 hr⟩
  | fuel+1,listed,σ,a,w,h,hr=>by
    refine ⟨fun h0=>hK _ _ _ (h.1 h0) hr,fun i hi=>?_⟩
    obtain ⟨o,ho,e,hy,hk⟩:=h.2 i hi
    obtain ⟨G,hG⟩:=hr
    unfold wpOpIn
    simp only [ho]
    rcases hy with ⟨hg,hd,ro,hl,h1,h2⟩ | ⟨hg,hd,rfl⟩
    · rw [hg.wanted hG,if_pos rfl]
      exact hl.ok a w ⟨G,hG⟩ _ _ fun a' w' hr'=>kAny_sound hK fuel _ _ a' w' hk hr'
    · rw [hg.wanted hG]
      simp only [Bool.false_eq_true,if_false]
      exact ⟨fun _ _=>trivial,kAny_sound hK fuel _ _ _ _ hk ⟨G,hG.setv hd undef_holds⟩⟩
theorem LOp.congr {o:Oper} {σ τ:St} {e:Eff} {ro:Nat→Bool} (h:LOp C o σ e ro) (h1:∀ x,x∈o.op.operands→τ.look x=σ.look x) (h2:∀ x,ro x=true→τ.mem x=σ.mem x):LOp C o τ e ro:=
  ⟨h.1,fun u k1 k2=>h.2 u (fun x hx=>(k1 x hx).trans (h1 x hx)) (fun x hx=>(k2 x hx).trans (h2 x hx))⟩
theorem St.puts_env:∀ (l:List (Nat × (Nat × Option MO))) (σ:St),(σ.puts l).env=σ.env
  | [],_=>rfl
  | (o,m)::l,σ=>by simp only [St.puts,St.put];exact St.puts_env l σ
theorem St.puts_mem:∀ (l:List (Nat × (Nat × Option MO))) (σ:St) (x:Nat),(∀ y m,(y,m)∈l→x≠y)→(σ.puts l).mem x=σ.mem x
  | [],_,_,_=>rfl
  | (o,m)::l,σ,x,h=>by
    simp only [St.puts,St.put,h o m (by simp),if_false]
    exact St.puts_mem l σ x fun y m hy=>h y m (by simp [hy])
theorem St.puts_in:∀ (l:List (Nat × (Nat × Option MO))) (σ τ:St) (x:Nat),(∃ m,(x,m)∈l)→(σ.puts l).mem x=(τ.puts l).mem x
  | [],_,_,_,h=>by simp at h
  | (o,m)::l,σ,τ,x,h=>by
    by_cases hx:x=o
    · simp [St.puts,St.put,hx]
    · simp only [St.puts,St.put,hx,if_false]
      refine St.puts_in l σ τ x ?_
      obtain ⟨n,hn⟩:=h
      simp only [List.mem_cons,Prod.mk.injEq] at hn
      rcases hn with hn|hn
      · exact absurd hn.1 hx
      · exact ⟨n,hn⟩
theorem St.set_mem {σ:St} {d:Option Nat} {v:AV}:(σ.set d v).mem=σ.mem:=by cases d<;>rfl
theorem Eff.env_app {e:Eff} {d:Option Nat} {σ:St} {t:Nat} (h:∀ t',d=some t'→t≠t'):(e.app d σ).env t=σ.env t:=by
  unfold Eff.app
  cases d with
  | none=>simp only [St.set];rw [St.puts_env]
  | some d=>simp only [St.set,h d rfl,if_false];rw [St.puts_env]
theorem Eff.mem_app {e:Eff} {d:Option Nat} {σ:St} {x:Nat} (h:∀ y m,(y,m)∈e.obj→x≠y):(e.app d σ).mem x=σ.mem x:=by
  unfold Eff.app
  rw [St.set_mem,St.puts_mem _ _ _ h]
theorem Eff.comm {e f:Eff} {d c:Option Nat} {σ:St} (hd:∀ t,d=some t→c≠some t) (ho:∀ x m y n,(x,m)∈e.obj→(y,n)∈f.obj→x≠y) :
    e.app d (f.app c σ)=f.app c (e.app d σ):=by
  have henv:(e.app d (f.app c σ)).env=(f.app c (e.app d σ)).env:=by
    funext t
    by_cases h1:d=some t
    · have h2:=hd t h1
      subst h1
      have e1:(e.app (some t) (f.app c σ)).env t=e.val:=by simp [Eff.app,St.set]
      rw [e1,Eff.env_app fun t' ht'=>by intro hh;subst hh;exact h2 ht']
      simp [Eff.app,St.set]
    · rw [Eff.env_app (e:=e) fun t' ht'=>by intro hh;subst hh;exact h1 ht']
      by_cases h2:c=some t
      · subst h2;simp [Eff.app,St.set]
      · rw [Eff.env_app fun t' ht'=>by intro hh;subst hh;exact h2 ht',Eff.env_app fun t' ht'=>by intro hh;subst hh;exact h2 ht',Eff.env_app fun t' ht'=>by intro hh;subst hh;exact h1 ht']
  have hmem:(e.app d (f.app c σ)).mem=(f.app c (e.app d σ)).mem:=by
    funext z
    by_cases h1:∃ m,(z,m)∈e.obj
    · have h2:∀ y m,(y,m)∈f.obj→z≠y:=fun y m hy he=>by
        obtain ⟨m',hm'⟩:=h1
        exact ho z m' y m hm' hy he
      rw [Eff.mem_app (e:=f) h2]
      unfold Eff.app
      rw [St.set_mem,St.set_mem]
      exact St.puts_in _ _ _ z h1
    · have h1':∀ y m,(y,m)∈e.obj→z≠y:=fun y m hy he=>h1 ⟨m,by rw [he];exact hy⟩
      rw [Eff.mem_app (e:=e) h1']
      by_cases h2:∃ m,(z,m)∈f.obj
      · unfold Eff.app
        rw [St.set_mem,St.set_mem]
        exact St.puts_in _ _ _ z h2
      · have h2':∀ y m,(y,m)∈f.obj→z≠y:=fun y m hy he=>h2 ⟨m,by rw [he];exact hy⟩
        rw [Eff.mem_app h2',Eff.mem_app h2',Eff.mem_app h1']
  have:∀ s t:St,s.env=t.env→s.mem=t.mem→s=t:=by rintro ⟨a,b⟩ ⟨c,d⟩ h1 h2;simp_all
  exact this _ _ henv hmem
theorem mem_looksAt {o:Oper} {t:Nat} (h:Operand.tmp t∈o.op.operands):t∈o.looksAt ops:=
  List.mem_append_left _ (List.mem_filterMap.2 ⟨.tmp t,by simpa using h,rfl⟩)
theorem Yld.congr {i:Nat} {o:Oper} {e:Eff} {σ τ:St} (h:Yld C ops W i o e σ) (h1:∀ t,t∈o.looksAt ops→τ.env t=σ.env t) (h2:∀ x,okObj ops W i x=true→τ.mem x=σ.mem x):Yld C ops W i o e τ:=by
  have hlook:∀ x,x∈o.op.operands→τ.look x=σ.look x:=fun x hx=>by
    cases x with
    | tmp t=>exact h1 t (mem_looksAt hx)
    | _=>rfl
  have hguard:∀ r,Guard ops σ o r→Guard ops τ o r:=fun r hg=>by
    unfold Guard at *
    cases hgd:o.guard with
    | none=>simpa [hgd] using hg
    | some jw=>
      obtain ⟨j,want⟩:=jw
      simp only [hgd] at hg ⊢
      obtain ⟨t,g1,g2⟩:=hg
      refine ⟨t,g1,?_⟩
      rw [h1 t ?_];exact g2
      unfold Oper.looksAt
      refine List.mem_append_right _ ?_
      simp [hgd,g1]
  rcases h with ⟨hg,hd,ro,hl,k1,k2⟩ | ⟨hg,hd,rfl⟩
  · exact .inl ⟨hguard _ hg,hd,ro,hl.congr hlook (fun x hx=>h2 x (k1 x hx)),k1,k2⟩
  · exact .inr ⟨hguard _ hg,hd,rfl⟩
theorem Yld.objW {i:Nat} {o:Oper} {e:Eff} {σ:St} (h:Yld C ops W i o e σ) {x:Nat} {m:Nat × Option MO} (hx:(x,m)∈e.obj):(i,x)∈W∧okObj ops W i x=true:=by
  rcases h with ⟨hg,hd,ro,hl,k1,k2⟩ | ⟨hg,hd,rfl⟩
  · exact ⟨k2 x m hx,k1 x (hl.1 x m hx)⟩
  · cases hx
theorem kAny_first {K:St→Prop} {i:Nat} {oi:Oper} {e:Eff} (hi:ops[i]?=some oi) :
    ∀ (fuel:Nat) (listed:Array Bool) (σ:St),Shut ops listed→
      (∀ (j:Nat) oj,ops[j]?=some oj→j≠i→listed.getD j true=false→(∀ e∈oj.after,Region.binds .any e=true→e.on≠i)→oi.apart ops oj=true)→
      i∈Region.ready .any ops listed→Yld C ops W i oi e σ→
      KAny C ops W K fuel (listed.setIfInBounds i true) (e.app oi.dst σ)→KAny C ops W K (fuel+1) listed σ:=by
  intro fuel
  induction fuel with
  | zero=>
    intro listed σ _ _ hr hy H
    refine ⟨fun h=>(by rw [h] at hr;cases hr),fun j hj=>?_⟩
    by_cases hji:j=i
    · subst hji;exact ⟨oi,hi,e,hy,H⟩
    · have:=ready_mono hj hji
      rw [H.1] at this
      cases this
  | succ fuel ih=>
    intro listed σ hshut hfree hr hy H
    refine ⟨fun h=>(by rw [h] at hr;cases hr),fun j hj=>?_⟩
    by_cases hji:j=i
    · subst hji;exact ⟨oi,hi,e,hy,H⟩
    · obtain ⟨oj',hoj',f,hyf,hk⟩:=H.2 j (ready_mono hj hji)
      obtain ⟨hjun,oj,hoj,hall⟩:=mem_ready.1 hj
      have hoo:oj'=oj:=by rw [hoj] at hoj';exact (Option.some.inj hoj').symm
      subst hoo
      have unl:∀ (a:Nat),listed.getD a true=false→listed.getD a false=true→False:=fun a h0 h1=>by
        rcases Nat.lt_or_ge a listed.size with h'|h'
        · simp [h'] at h0 h1;rw [h0] at h1;cases h1
        · simp [Array.getElem?_eq_none h'] at h1
      have hiun:=(mem_ready.1 hr).1
      have hnot:∀ e∈oj'.after,Region.binds .any e=true→e.on≠i:=fun e he hb heq=>by
        have h1:=hall e he hb
        rw [heq] at h1
        exact unl i hiun h1
      have hap:=hfree j oj' hoj hji hjun hnot
      obtain ⟨a1,a2,a3⟩:=Oper.apart_spec hap
      have noedge:edge ops i j=false:=by
        unfold edge
        simp only [hoj]
        rw [Bool.eq_false_iff]
        intro hc
        obtain ⟨e,he,hb⟩:=Array.any_eq_true'.1 hc
        simp only [Bool.and_eq_true,beq_iff_eq] at hb
        exact hnot e he hb.1 hb.2
      have noedge':edge ops j i=false:=by
        unfold edge
        simp only [hi]
        rw [Bool.eq_false_iff]
        intro hc
        obtain ⟨e,he,hb⟩:=Array.any_eq_true'.1 hc
        simp only [Bool.and_eq_true,beq_iff_eq] at hb
        obtain ⟨_,o',ho',hall'⟩:=mem_ready.1 hr
        rw [hi] at ho'
        obtain rfl:=Option.some.inj ho'
        have h1:=hall' e he hb.1
        rw [hb.2] at h1
        exact unl j hjun h1
      have nor:reach ops 30 i j=false:=noreach hshut hiun 30 j oj' hoj hall
      have nor':reach ops 30 j i=false:=by
        obtain ⟨_,o',ho',hall'⟩:=mem_ready.1 hr
        exact noreach hshut hjun 30 i o' ho' hall'
      have objne:∀ (p q:Nat) x y,(p,x)∈W→okObj ops W q y=true→p≠q→edge ops p q=false→edge ops q p=false→reach ops 30 p q=false→reach ops 30 q p=false→y≠x:=fun p q x y hW hok hpq e1 e2 e3 e4 he=>by
        subst he
        unfold okObj at hok
        have:=List.all_eq_true.1 hok (p,y) hW
        simp [e1,e2,e3,e4,hpq] at this
      -- j does not see what i does
      have hyf':Yld C ops W j oj' f σ:=hyf.congr
        (fun t ht=>(Eff.env_app fun t' ht' he=>by subst he;exact a1 t ht' ht).symm)
        (fun x hx=>(Eff.mem_app fun y m hy'=>objne i j y x (hy.objW hy').1 hx (fun h=>hji h.symm) noedge noedge' nor nor').symm)
      have hy':Yld C ops W i oi e (f.app oj'.dst σ):=hy.congr
        (fun t ht=>Eff.env_app fun t' ht' he=>by subst he;exact a3 t ht' ht)
        (fun x hx=>Eff.mem_app fun y m hy'=>objne j i y x (hyf.objW hy').1 hx hji noedge' noedge nor' nor)
      have hcomm:e.app oi.dst (f.app oj'.dst σ)=f.app oj'.dst (e.app oi.dst σ):=Eff.comm a2
        (fun x m y n hx hy2 he=>by
          subst he
          have h3:=(hyf.objW hy2).2
          exact objne i j x x (hy.objW hx).1 h3 (fun h=>hji h.symm) noedge noedge' nor nor' rfl)
      refine ⟨oj',hoj,f,hyf',?_⟩
      have hfree':∀ (k:Nat) ok,ops[k]?=some ok→k≠i→(listed.setIfInBounds j true).getD k true=false→
          (∀ e∈ok.after,Region.binds .any e=true→e.on≠i)→oi.apart ops ok=true:=fun k ok hk hki hun hno=>by
        refine hfree k ok hk hki ?_ hno
        by_cases hjk:j=k
        · subst hjk;exact hjun
        · rw [getD_set_ne true hjk] at hun;exact hun
      refine ih (listed.setIfInBounds j true) _ (hshut.set hoj hall) hfree' (ready_mono hr (Ne.symm hji)) hy' ?_
      rw [Array.setIfInBounds_comm _ _ hji,hcomm]
      exact hk
theorem kAny_lex {K:St→Prop}:∀ (l:List Oper) (k:Nat) (listed:Array Bool) (σ:St),Shut ops listed→(∀ j,l[j]?=ops[k+j]?)→
    Region.lexFrom .any ops l.length k listed=true→RunK C ops W k l K σ→KAny C ops W K l.length listed σ
  | [],_,_,_,_,_,hB,h=>⟨by simpa [Region.lexFrom] using hB,h⟩
  | o::l,k,listed,σ,hs,hl,hB,h=>by
    have h0:ops[k]?=some o:=by simpa using (hl 0).symm
    simp only [List.length_cons,Region.lexFrom,Bool.and_eq_true] at hB
    obtain ⟨⟨hr,hf⟩,hB'⟩:=hB
    obtain ⟨e,hy,hK⟩:=h
    have hrm:k∈Region.ready .any ops listed:=by simpa using hr
    obtain ⟨_,ok,hok,hall⟩:=mem_ready.1 hrm
    exact kAny_first h0 l.length listed σ hs (Region.free_spec h0 hf) hrm hy
      (kAny_lex l (k+1) _ _ (hs.set hok hall) (fun j=>by have:=hl (j+1);simpa [Nat.add_assoc,Nat.add_comm 1 j] using this) hB' hK)
theorem aws_draws {id:Nat} {l:List Oper} {k:List Code} {Q:Exit→St→Prop} {σ:St} (W:List (Nat × Nat)) (hm:C.P.follows .mixedOrders=true) (hB:Region.lexB .any l.toArray=true)
    (h:RunK C l.toArray W 0 l (AWs C k Q) σ):AWs C (.region id l.toArray true::k) Q σ:=by
  intro a w hr
  simp only [Region.lexB,Bool.and_eq_true] at hB
  obtain ⟨G,hG⟩:=hr
  refine wpIn_region_any hm (kAny_sound (W:=W) (K:=AWs C k Q) (fun σ a w hK hr=>⟨σ,hK,hr⟩) _ _ _ _ _ ?_ ⟨G,hG.world' (Quiet.drew w)⟩)
  have:=kAny_lex (C:=C) (W:=W) (K:=AWs C k Q) (ops:=l.toArray) l 0 (Array.replicate l.toArray.size false) σ (fun b ob hb hl=>by
    have hlt:b < l.toArray.size:=(Array.getElem?_eq_some_iff.1 hb).1
    have e:(Array.replicate l.toArray.size false).getD b false=false:=by simp [Array.getElem?_replicate];split<;>rfl
    rw [e] at hl;cases hl) (by simp) (by simpa using hB.2) h
  simpa using this
end draws
/-! ### Contracts -/
def PCall (P:Program) (f:FuncId) (args:List AV) (r:AV):Prop:=
  ∀ (w:World) (S:Nat→Prop) (vs:List Value),(∀ b,S b→b < w.heap.size)→All2 (AV.holds Mu.none ⟨w,S⟩) args vs→
    Calls P f vs.toArray w fun e w'=>∃ v,e=.returned v∧(∃ S':Nat→Prop,(∀ b,S b→S' b)∧(∀ b,S' b→S b∨(w.heap.size≤b∧b < w'.heap.size))∧r.holds Mu.none ⟨w',S'⟩ v)∧Below w.heap.size w w'∧w.drawn≤w'.drawn
end Go.Aw
/- THE ABSTRACT WALK, part 3: entering a function, returning, calling. -/
namespace Go.Aw
open Go Go.RowKit
set_option linter.unusedVariables false
set_option linter.unusedSimpArgs false
/-! ### Types -/
inductive TK where
  | int (k:IntKind)|bool|string
  | slice (e:TypeId)|array (n:Nat) (e:TypeId)|struct (fs:List (Nat × TypeId))
  | ptr (e:TypeId)|map (k e:TypeId)|other
def TK.of:TypeDesc→TK
  | .int k=>.int k
  | .bool=>.bool
  | .string=>.string
  | .slice e=>.slice e
  | .array n e=>.array n e
  | .struct fs=>.struct (fs.toList.map fun f=>(f.offset,f.type))
  | .pointer e=>.ptr e
  | .map k e=>.map k e
  | _=>.other
def TK.agg:TK→Bool
  | .array .. | .struct ..=>true
  | _=>false
class TI (P:Program) (T:TypeId) (k:outParam TK) (sz by_:outParam Nat):Prop where
  und:(P.underlying T).map TK.of=some k
  info:(P.info? T).map (fun i=>(i.size,i.bytes))=some (sz,by_)
class TZ (P:Program) (T:TypeId) (z:outParam (List Value)):Prop where
  zero:(P.info? T).bind (fun i=>i.zero.map (fun v=>v.cells.toList))=some z
class FnT (P:Program) (f:FuncId):Prop where
  fn : ∃ fn, P.funcs[f]? = some fn ∧ (fn.name == "runtime.NumGoroutine") = false ∧ fn.body.isNone = false
section types
variable {P:Program} {T:TypeId} {k:TK} {sz by_:Nat}
theorem TI.undd [h:TI P T k sz by_]:∃ d,P.underlying T=some d∧TK.of d=k:=by
  have:=h.und
  cases hu:P.underlying T with
  | none=>simp [hu] at this
  | some d=>exact ⟨d,rfl,by simpa [hu] using this⟩
theorem TI.infoo [h:TI P T k sz by_]:∃ i,P.info? T=some i∧i.size=sz∧i.bytes=by_:=by
  have:=h.info
  cases hu:P.info? T with
  | none=>simp [hu] at this
  | some i=>simp [hu] at this;exact ⟨i,rfl,this.1,this.2⟩
theorem TI.run_sizeOf (h:TI P T k sz by_) (w:World):(sizeOf T).run P w=.ok sz w:=by
  obtain ⟨i,hi,hs,_⟩:=h.infoo
  simp [sizeOf,typeInfo,hi,hs]
theorem TI.run_isAgg (h:TI P T k sz by_) (w:World):(isAgg T).run P w=.ok k.agg w:=by
  obtain ⟨d,hd,hk⟩:=h.undd
  unfold isAgg
  rw [Sem.run_bind,run_underlying hd w]
  subst hk
  cases d<;>simp [TK.of,TK.agg]
end types
/-! ### Entering and returning -/
def St.init (args:List AV):St:=⟨fun t=>args.getD t .un,fun _=>(0,none)⟩
def PVal.bx (ps:List PVal) (off:Nat):PVal where
  holds X v:=∃ b cs ty,v=.pointer (some ⟨b,off,none⟩)∧X.S b∧X.w.heap[b]?=some (.cells (List.toArray cs) ty (0,0))∧All2 (fun p c=>p.holds X c) ps cs
  mono:=by
    rintro x y v hle ⟨b,cs,ty,h1,h2,h3,h4⟩
    exact ⟨b,cs,ty,h1,(hle b h2).1,(hle b h2).2.trans h3,h4.mono fun p c hp=>p.mono hle hp⟩
  one:=by rintro x v ⟨b,cs,ty,rfl,_⟩;rfl
inductive FinC (σ:St) (K:Nat→Bool):AC→AC→Prop
  | p {x:PVal}:FinC σ K (.p x) (.p x)
  | nil {es:Nat} {ex:Bool}:FinC σ K (.p (.v (.slice none 0 0))) (.p (.sl es [] ex))
  | osl {o g es lo len ty:Nat} {rows:List (List PVal)} (hK:K o=false) (hm:σ.mem o=(g+1,some (.buf ty es rows))) (hl:lo+len≤rows.length) :
      FinC σ K (.osl o g es lo len) (.p (.sl es ((rows.drop lo).take len) false))
  | frz {o g es lo len ty:Nat} {rows:List (List PVal)} (hm:σ.mem o=(g+1,some (.frz ty es rows))) (hl:lo+len≤rows.length) :
      FinC σ K (.osl o g es lo len) (.p (.sl es ((rows.drop lo).take len) false))
  | bx {o g off ty:Nat} {ps:List PVal} (hK:K o=false) (hm:σ.mem o=(g+1,some (.box ty (ps.map .p)))):FinC σ K (.ptr o g off) (.p (.bx ps off))
  | kptr {o g off:Nat} (hK:K o=true):FinC σ K (.ptr o g off) (.ptr o g off)
  | kosl {o g es lo len:Nat} (hK:K o=true):FinC σ K (.osl o g es lo len) (.osl o g es lo len)
  | kasl {o g off len cap:Nat} (hK:K o=true):FinC σ K (.asl o g off len cap) (.asl o g off len cap)
  | kfn {f o g:Nat} {pre post:List PVal} (hK:K o=true):FinC σ K (.fn f o g pre post) (.fn f o g pre post)
inductive FinS (σ:St) (K:Nat→Bool):SV→SV→Prop
  | one {c d:AC} (h:FinC σ K c d):FinS σ K (.one c) (.one d)
  | agg {cs ds:List AC} (h:All2 (FinC σ K) cs ds):FinS σ K (.agg cs) (.agg ds)
inductive FinM (σ:St) (K:Nat→Bool):Nat × Option MO→Nat × Option MO→Prop
  | drop {n:Nat} {mo:Option MO}:FinM σ K (n,mo) (n,none)
  | buf {n ty es:Nat} {rows:List (List PVal)}:FinM σ K (n,some (.buf ty es rows)) (n,some (.buf ty es rows))
  | frz {n ty es:Nat} {rows:List (List PVal)}:FinM σ K (n,some (.frz ty es rows)) (n,some (.frz ty es rows))
  | abs {n:Nat} {A:AObj}:FinM σ K (n,some (.abs A)) (n,some (.abs A))
  | box {n ty:Nat} {cs ds:List AC} (h:All2 (FinC σ K) cs ds):FinM σ K (n,some (.box ty cs)) (n,some (.box ty ds))
inductive Res (P:Program) (σ:St) (K:Nat→Bool):ResultVar→SV→Prop
  | tmp {t:Nat} {s s':SV} (h:σ.env t=.s s) (hf:FinS σ K s s'):Res P σ K (.tmp t) s'
  | cell {t ty o g ty' sz by_:Nat} {k:TK} {cs ds:List AC} (h:σ.env t=.o (.ptr o g 0)) (hm:σ.mem o=(g+1,some (.box ty' cs))) (hT:TI P ty k sz by_) (hk:k.agg=true) (hs:cs.length=sz) (hf:All2 (FinC σ K) cs ds) :
      Res P σ K (.cell t ty) (.agg ds)
def resAV:List SV→AV
  | [s]=>.s s
  | l=>.tup l
def kNone:Nat→Bool:=fun _=>false
def Ret (P:Program) (fn:Func) (r:AV):Exit→St→Prop
  | .ret,σ | .normal,σ=>∃ l,r=resAV l∧All2 (Res P σ kNone) fn.results.toList l
  | _,_=>False
def RetO (P:Program) (fn:Func) (r:AV) (K:Nat→Bool) (m1:Nat→Nat × Option MO):Exit→St→Prop
  | .ret,σ | .normal,σ=>(∃ l,r=resAV l∧All2 (Res P σ K) fn.results.toList l)∧(∀ o,K o=true→FinM σ K (σ.mem o) (m1 o))∧∀ o,K o=false→m1 o=(0,none)
  | _,_=>False
section finish
variable {C:Ctx} {σ:St} {a:Act} {w:World} {G:Gh} {K:Nat→Bool}
def muK (K:Nat→Bool) (G:Gh):Mu:=fun o=>if K o=true then G.μ o else []
def aftS (K:Nat→Bool) (G:Gh):Nat→Prop:=fun b=>G.S b∨∃ o,K o=false∧b∈G.φ o
theorem le_aft:Wd.le ⟨w,G.S⟩ ⟨w,aftS K G⟩:=fun b hb=>⟨.inl hb,rfl⟩
theorem FinC.holds (h:RelG C σ a w G) {c d:AC} (hf:FinC σ K c d) {v:Value} (hc:c.holds G.μ ⟨w,G.S⟩ v):d.holds (muK K G) ⟨w,aftS K G⟩ v:=by
  have rowsOk:∀ {arr:Array Value} {es lo len:Nat} {rows:List (List PVal)},RowsAt ⟨w,G.S⟩ arr 0 es rows→RowsAt ⟨w,aftS K G⟩ arr (lo * es) es ((rows.drop lo).take len):=by
    intro arr es lo len rows h7 i row hr
    have hr':rows[lo+i]?=some row:=by
      rw [List.getElem?_take] at hr
      split at hr
      · simpa using hr
      · cases hr
    refine ⟨(h7 _ _ hr').1,fun j p hp=>?_⟩
    obtain ⟨x,hx,hxx⟩:=(h7 _ _ hr').2 j p hp
    refine ⟨x,?_,p.mono le_aft hxx⟩
    rw [← hx];congr 1
    rw [Nat.add_mul];omega
  cases hf with
  | p=>exact PVal.mono _ le_aft hc
  | nil=>exact ⟨none,0,hc.1,Nat.le_refl _,by simp [maxLen],fun _=>rfl,rfl,rfl⟩
  | @osl o g es lo len ty rows hK hm hl=>
    obtain ⟨m,c,h1,h2,rfl⟩:=hc
    obtain ⟨g',m',hg,hm',hes,hmax,hlen,hh⟩:=h.mem _ _ _ hm
    obtain rfl:g=g':=by omega
    rw [h1] at hm'
    obtain rfl:=Option.some.inj hm'
    simp only at hlen hmax hh
    refine ⟨m.map fun b=>⟨b,lo * es,none⟩,c - lo,?_,?_,by omega,by simp,?_⟩
    · simp;omega
    · simp;omega
    · rcases hh with ⟨h3,h4,h5⟩ | ⟨b,arr,h3,h4,h5,h6,h7⟩
      · subst h3;simp only [Option.map_none]
        refine ⟨?_,by omega⟩
        have:rows=[]:=List.eq_nil_of_length_eq_zero (by omega)
        simp [this]
      · subst h3
        simp only [Option.map_some]
        exact .inr ⟨by first|rfl|trivial,.inr ⟨o,hK,by rw [h4];simp⟩,arr,ty,(0,0),h5,rowsOk h7⟩
  | @frz o g es lo len ty rows hm hl=>
    obtain ⟨m,c,h1,h2,rfl⟩:=hc
    obtain ⟨g',m',hg,hm',hes,hmax,hlen,hh⟩:=h.mem _ _ _ hm
    obtain rfl:g=g':=by omega
    rw [h1] at hm'
    obtain rfl:=Option.some.inj hm'
    simp only at hlen hmax hh
    refine ⟨m.map fun b=>⟨b,lo * es,none⟩,c - lo,?_,?_,by omega,by simp,?_⟩
    · simp;omega
    · simp;omega
    · rcases hh with ⟨h3,h4⟩ | ⟨b,arr,h3,h4,h5,h7⟩
      · subst h3;simp only [Option.map_none]
        refine ⟨?_,by omega⟩
        have:rows=[]:=List.eq_nil_of_length_eq_zero (by omega)
        simp [this]
      · subst h3
        simp only [Option.map_some]
        exact .inr ⟨by first|rfl|trivial,.inl h4,arr,ty,(0,0),h5,rowsOk h7⟩
  | @bx o g off ty ps hK hm=>
    obtain ⟨b,c,h1,rfl⟩:=hc
    obtain ⟨g',m',hg,hm',b',arr,h4,h5,h6,h7⟩:=h.mem _ _ _ hm
    obtain rfl:g=g':=by omega
    rw [h1] at hm'
    obtain rfl:=Option.some.inj hm'
    simp only [Option.some.injEq] at h4
    subst h4
    refine ⟨b,arr,ty,rfl,.inr ⟨o,hK,by rw [h5];simp⟩,h6,?_⟩
    refine ⟨by simpa using h7.1,fun i p c hp hc=>?_⟩
    have:=h7.2 i (.p p) c (by simp [hp]) hc
    exact p.mono le_aft this
  | @kptr o g off hK=>obtain ⟨b,c,h1,h2⟩:=hc;exact ⟨b,c,by simpa [muK,hK] using h1,h2⟩
  | @kosl o g es lo len hK=>obtain ⟨m,c,h1,h2⟩:=hc;exact ⟨m,c,by simpa [muK,hK] using h1,h2⟩
  | @kasl o g off len cap hK=>obtain ⟨b,c,h1,h2⟩:=hc;exact ⟨b,c,by simpa [muK,hK] using h1,h2⟩
  | @kfn f o g pre post hK=>
    obtain ⟨vs,us,b,c,h1,h2,h3,h4⟩:=hc
    exact ⟨vs,us,b,c,by simpa [muK,hK] using h1,h2,h3.mono fun p _ hp=>p.mono le_aft hp,h4.mono fun p _ hp=>p.mono le_aft hp⟩
theorem FinL.holds (h:RelG C σ a w G) {cs ds:List AC} (hf:All2 (FinC σ K) cs ds) {vs:List Value} (hc:All2 (AC.holds G.μ ⟨w,G.S⟩) cs vs):All2 (AC.holds (muK K G) ⟨w,aftS K G⟩) ds vs:=by
  refine ⟨hf.1.symm.trans hc.1,fun i d v hd hv=>?_⟩
  have hi:i < cs.length:=by rw [hf.1];exact (List.getElem?_eq_some_iff.1 hd).1
  have hci:cs[i]?=some cs[i]:=by simp [hi]
  exact FinC.holds h (hf.2 i _ d hci hd) (hc.2 i _ v hci hv)
theorem FinS.holds (h:RelG C σ a w G) {s s':SV} (hf:FinS σ K s s') {v:Value} (hc:s.holds G.μ ⟨w,G.S⟩ v):s'.holds (muK K G) ⟨w,aftS K G⟩ v:=by
  cases hf with
  | one hf=>exact FinC.holds h hf hc
  | agg hf=>obtain ⟨arr,rfl,h1⟩:=hc;exact ⟨arr,rfl,FinL.holds h hf h1⟩
theorem cell_row {w:World} {b:Nat} {arr:List Value} {ty:TypeId} {fr:Nat × Nat} (h:w.heap[b]?=some (.cells arr.toArray ty fr)) (j:Nat):w.cell? ⟨b,j,none⟩=arr[j]?:=by
  rw [cell_of_row w b j _ _ _ h];simp
theorem add_addr (b o n:Nat):(⟨b,o,none⟩:Addr).add n=⟨b,o+n,none⟩:=by
  unfold Addr.add;split<;>simp_all
theorem run_loadVar {P:Program} {T:TypeId} {k:TK} {sz by_:Nat} (hT:TI P T k sz by_) {w:World} {b off:Nat} {arr:List Value} {ty:TypeId} {fr:Nat × Nat} (h:w.heap[b]?=some (.cells arr.toArray ty fr))
    (hl:off+sz≤arr.length) (h1:k.agg=false→sz=1) :
    (loadVar T ⟨b,off,none⟩).run P w=.ok (if k.agg then .agg ((arr.drop off).take sz).toArray else arr.getD off undef) w:=by
  unfold loadVar
  rw [Sem.run_bind,hT.run_isAgg w]
  simp only [Result.andThen_ok]
  cases hk:k.agg with
  | true=>
    have hc:=run_loadCells_list (P:=P) w ⟨b,off,none⟩ ((arr.drop off).take sz) (fun j v hv=>by
      rw [add_addr,cell_row h]
      rw [List.getElem?_take] at hv
      split at hv
      · simpa using hv
      · cases hv)
    have hlen:((arr.drop off).take sz).length=sz:=by simp;omega
    rw [hlen] at hc
    simp [hT.run_sizeOf,hc]
  | false=>
    have:=h1 hk
    simp only [Bool.false_eq_true,if_false,run_load,cell_row h]
    have hlt:off < arr.length:=by omega
    simp [hlt]
def resSem (tmps:Array Value):ResultVar→Sem Value
  | .tmp t=>pure (tmps.getD t undef)
  | .cell x t=>do loadVar t (← asAddr (tmps.getD x undef))
theorem Res.run (h:RelG C σ a w G) {rv:ResultVar} {s:SV} (hr:Res C.P σ K rv s) :
    ∃ v,(resSem a.tmps rv).run C.P w=.ok v w∧s.holds (muK K G) ⟨w,aftS K G⟩ v:=by
  cases hr with
  | @tmp t s s' he hf=>
    have:=h.env t
    rw [he] at this
    exact ⟨_,rfl,FinS.holds h hf this⟩
  | @cell t ty o g ty' sz by_ k cs ds he hm hT hk hs hf=>
    have h1:=h.env t
    rw [he] at h1
    obtain ⟨b,c,h2,h3⟩:=h1
    obtain ⟨g',m',hg,hm',b',arr,h4,h5,h6,h7⟩:=h.mem _ _ _ hm
    obtain rfl:g=g':=by omega
    rw [h2] at hm'
    obtain rfl:=Option.some.inj hm'
    simp only [Option.some.injEq] at h4
    subst h4
    have hlen:arr.length=sz:=by rw [← hs];exact h7.1.symm
    refine ⟨.agg arr.toArray,?_,arr,rfl,FinL.holds h hf h7⟩
    have:=run_loadVar hT h6 (off:=0) (by omega) (by simp [hk])
    simp only [hk,if_true,List.drop_zero] at this
    rw [List.take_of_length_le (by omega)] at this
    simp only [resSem,h3,asAddr,Sem.run_bind,Sem.run_pure,Result.andThen_ok,this]
theorem results_run (h:RelG C σ a w G) {fn:Func} {l:List SV} (hr:All2 (Res C.P σ K) fn.results.toList l) :
    ∃ v,(results fn a.tmps).run C.P w=.ok v w∧(resAV l).holds (muK K G) ⟨w,aftS K G⟩ v:=by
  have key:∀ (rs:List ResultVar) (l:List SV),All2 (Res C.P σ K) rs l→∃ vs:List Value,(rs.mapM (resSem a.tmps)).run C.P w=.ok vs w∧All2 (SV.holds (muK K G) ⟨w,aftS K G⟩) l vs:=by
    intro rs
    induction rs with
    | nil=>intro l hl;obtain rfl:=hl.nil_inv;exact ⟨[],rfl,.nil⟩
    | cons r rs ih=>
      intro l hl
      obtain ⟨s,l',rfl,h1,h2⟩:=hl.cons_inv
      obtain ⟨v,hv,hs⟩:=Res.run h h1
      obtain ⟨vs,hvs,hss⟩:=ih l' h2
      exact ⟨v::vs,by simp [List.mapM_cons,hv,hvs],.cons hs hss⟩
  obtain ⟨vs,hvs,hss⟩:=key _ _ hr
  have hm:(fn.results.mapM (resSem a.tmps)).run C.P w=.ok vs.toArray w:=by
    have e:fn.results.mapM (resSem a.tmps)=List.toArray <$> fn.results.toList.mapM (resSem a.tmps):=by
      rw [Array.mapM_eq_mapM_toList]
    rw [e]
    simp [hvs]
  have hdef:results fn a.tmps=(do
    let vs ← fn.results.mapM (resSem a.tmps)
    pure (if h:vs.size=1 then vs[0] else .tuple vs)):=rfl
  refine ⟨if h:vs.toArray.size=1 then vs.toArray[0] else .tuple vs.toArray,?_,?_⟩
  · rw [hdef,Sem.run_bind,hm];rfl
  · match l,vs,hss with
    | [s],vs,hss=>
      obtain ⟨v,vs',rfl,h1,h2⟩:=hss.cons_inv
      obtain rfl:=h2.nil_inv
      simpa [resAV,AV.holds] using h1
    | [],vs,hss=>
      obtain rfl:=hss.nil_inv
      exact ⟨[],by simp,.nil⟩
    | s::s'::l,vs,hss=>
      have hlen:=hss.1
      have:¬ vs.toArray.size=1:=by simp at hlen ⊢;omega
      rw [dif_neg this]
      exact ⟨vs,rfl,hss⟩
theorem RelG.take (h:RelG C σ a w G) {b:Nat} {ds:List Deferred} (hd:a.defers=markOf b::ds) :
    (Instr.takeDeferred b).run C.P w=.ok [] (w.putObj b (.deferred none))∧RelG C σ { a with defers:=ds } (w.putObj b (.deferred none)) G:=by
  obtain ⟨b',he,h1,h2,h3,h4,h5⟩:=h.defers (markOf b) (by rw [hd];simp)
  obtain rfl:b=b':=by simpa [markOf] using he
  have hother:∀ k,k≠b→(w.putObj b (.deferred none)).heap[k]?=w.heap[k]?:=fun k hk=>World.putObj_heap_other hk
  have hle:Wd.le ⟨w,G.S⟩ ⟨w.putObj b (.deferred none),G.S⟩:=fun k hk=>⟨hk,hother k fun e=>h4 (e ▸ hk)⟩
  have hnd:=h.dnod
  rw [hd,List.nodup_cons] at hnd
  refine ⟨run_takeDeferred h3,?_⟩
  exact {
    size:=h.size
    defers:=fun d hdd=>by
      obtain ⟨c,rfl,k1,k2,k3,k4,k5⟩:=h.defers d (by rw [hd];simp [hdd])
      refine ⟨c,rfl,k1,by simpa using k2,(hother c fun e=>?_).trans k3,k4,k5⟩
      subst e;exact hnd.1 hdd
    dnod:=hnd.2
    mle:=h.mle
    env:=fun t=>(h.env t).mono (Mu.le.refl _) hle
    gens:=h.gens
    mem:=fun o n mo ho=>by
      obtain ⟨g,m,hn,hm,hh⟩:=h.mem o n mo ho
      exact ⟨g,m,hn,hm,hh.mono (Mu.le.refl _) hle fun k hk=>hother k fun e=>h5 o (e ▸ hk)⟩
    apart:=h.apart
    stab:=h.stab
    own:=fun o k hk=>⟨(h.own o k hk).1,by simpa using (h.own o k hk).2⟩
    sbd:=fun k hk=>⟨by simpa using (h.sbd k hk).1,(h.sbd k hk).2⟩
    ssub:=h.ssub
    fr:=⟨h.fr.os,⟨h.fr.tape.eq,h.fr.tape.le⟩,h.fr.output,by simpa using h.fr.size,fun k hk hf=>(hother k (by omega)).trans (h.fr.block k hk hf)⟩ }
theorem leaves_of {R:Ending→World→Prop} {fn:Func}:∀ (ds:List Deferred) (a:Act) (w:World),a.defers=ds→RelG C σ a w G→
    (∀ a2 w2,a2.tmps=a.tmps→RelG C σ a2 w2 G→∃ v,(results fn a2.tmps).run C.P w2=.ok v w2∧R (.returned v) w2)→
    LeavesInM (fz none) 0 C.P fn a.tmps R ds .returning w
  | [],a,w,_,h,hr=>hr a w rfl h
  | d::ds,a,w,hd,h,hr=>by
    obtain ⟨b,rfl,_⟩:=h.defers d (by rw [hd];simp)
    obtain ⟨h1,h2⟩:=h.take hd
    exact ⟨by simp,.inl ⟨b,_,rfl,h1,leaves_of ds { a with defers:=ds } _ rfl h2 fun a2 w2 e hr2=>hr a2 w2 e hr2⟩⟩
end finish
/-! ### Contracts with objects -/
structure ObjG (mem:Nat→Nat × Option MO) (w:World) (G:Gh):Prop where
  gens:∀ o,(G.μ o).length=(mem o).1
  mem:∀ o n mo,mem o=(n,some mo)→∃ g m,n=g+1∧(G.μ o)[g]?=some m∧mo.holds G.μ ⟨w,G.S⟩ m (G.φ o)
  apart:∀ o o' b,o≠o'→b∈G.φ o→b∈G.φ o'→False
  stab:∀ o b,b∈G.φ o→¬ G.S b
  own:∀ o b,b∈G.φ o→b < w.heap.size
  sbd:∀ b,G.S b→b < w.heap.size
structure FrF (F:Nat→Prop) (w w':World):Prop where
  os:w'.os=w.os
  tape:TL w' w
  output:w'.output=w.output
  size:w.heap.size≤w'.heap.size
  block:∀ k,k < w.heap.size→¬ F k→w'.heap[k]?=w.heap[k]?
def OCall (P:Program) (f:FuncId) (args:List AV) (m0:Nat→Nat × Option MO) (r:AV) (m1:Nat→Nat × Option MO):Prop:=
  ∀ (w:World) (G:Gh) (vs:List Value),ObjG m0 w G→All2 (AV.holds G.μ ⟨w,G.S⟩) args vs→
    Calls P f vs.toArray w fun e w'=>∃ v G',e=.returned v∧r.holds G'.μ ⟨w',G'.S⟩ v∧ObjG m1 w' G'∧
      (∀ b,G.S b→G'.S b)∧(∀ b,G'.S b→G.S b∨w.heap.size≤b∨∃ o,b∈G.φ o)∧(∀ o b,b∈G'.φ o→w.heap.size≤b∨∃ o',b∈G.φ o')∧
      G.μ.le G'.μ∧FrF (fun b=>∃ o,b∈G.φ o) w w'
theorem rel_start {P:Program} {fn:Func} {args:List AV} {m0:Nat→Nat × Option MO} {w:World} {G:Gh} {vs:List Value} (ho:ObjG m0 w G) (ha:All2 (AV.holds G.μ ⟨w,G.S⟩) args vs) :
    RelG ⟨P,w,fun b=>∃ o,b∈G.φ o,G.S,max args.length fn.ntmps,none,G.μ⟩ ⟨fun t=>args.getD t .un,m0⟩ { tmps:=vs.toArray++Array.replicate (fn.ntmps - vs.toArray.size) undef,defers:=[] } w G:=by
  have hlen:vs.length=args.length:=ha.1.symm
  exact {
    size:=by simp [hlen];omega
    defers:=fun d hd=>by simp at hd
    dnod:=by simp
    mle:=Mu.le.refl _
    env:=fun t=>by
      rcases Nat.lt_or_ge t args.length with ht|ht
      · have h1:args[t]?=some args[t]:=by simp [ht]
        have h2:vs[t]?=some (vs[t]'(by omega)):=by simp [hlen,ht]
        have:=ha.2 t _ _ h1 h2
        have e1:args.getD t .un=args[t]:=by simp [ht]
        have e2:(vs.toArray++Array.replicate (fn.ntmps - vs.toArray.size) undef).getD t undef=vs[t]'(by omega):=by
          simp [Array.getElem?_append,hlen,ht]
        show (args.getD t .un).holds _ _ _
        rw [e1,e2];exact this
      · have e1:args.getD t .un=.un:=by simp [ht]
        show (args.getD t .un).holds _ _ _
        rw [e1];trivial
    gens:=ho.gens
    mem:=ho.mem
    apart:=ho.apart
    stab:=ho.stab
    own:=fun o b hb=>⟨.inr ⟨o,hb⟩,ho.own o b hb⟩
    sbd:=fun b hb=>⟨ho.sbd b hb,.inl hb⟩
    ssub:=fun b hb=>hb
    fr:=⟨rfl,.same,rfl,Nat.le_refl _,fun _ _ _=>rfl⟩ }
def OPost (r:AV) (m1:Nat→Nat × Option MO) (w:World) (G:Gh) (e:Ending) (w':World):Prop:=
  ∃ v G',e=.returned v∧r.holds G'.μ ⟨w',G'.S⟩ v∧ObjG m1 w' G'∧
      (∀ b,G.S b→G'.S b)∧(∀ b,G'.S b→G.S b∨w.heap.size≤b∨∃ o,b∈G.φ o)∧(∀ o b,b∈G'.φ o→w.heap.size≤b∨∃ o',b∈G.φ o')∧
      G.μ.le G'.μ∧FrF (fun b=>∃ o,b∈G.φ o) w w'
theorem ocall_at {P:Program} {f:FuncId} {fn:Func} {body:Code} {args:List AV} {r:AV} (K:Nat→Bool) {m0 m1:Nat→Nat × Option MO} (hf:P.funcs[f]?=some fn) (hb:fn.body=some body)
    (hK:∀ o,K o=false→m0 o=(0,none)) {w:World} {G:Gh} {vs:List Value} (ho:ObjG m0 w G) (ha:All2 (AV.holds G.μ ⟨w,G.S⟩) args vs)
    (h:AWs ⟨P,w,fun b=>∃ o,b∈G.φ o,G.S,max args.length fn.ntmps,none,G.μ⟩ [body] (RetO P fn r K m1) ⟨fun t=>args.getD t .un,m0⟩):Calls P f vs.toArray w (OPost r m1 w G):=by
  refine (callsIn_wide (n:=0)).1 ?_
  refine callsIn_of_wp_marks (F:=fz none) hf hb trivial ?_ rfl
  refine wpIn_mono (aws_one h _ w ⟨G,rel_start ho ha⟩) ?_
  rintro e a' w' ⟨σ',hq,G',hG⟩
  have hsub:∀ b,G'.S b→G.S b∨w.heap.size≤b∨∃ o,b∈G.φ o:=fun b hb=>(hG.sbd b hb).2
  have hown:∀ o b,b∈G'.φ o→w.heap.size≤b∨∃ o',b∈G.φ o':=fun o b hb=>(hG.own o b hb).1
  have fin:RetO P fn r K m1 .ret σ'→LeavesInM (fz none) 0 P fn a'.tmps (fun e w'=>∃ v G',e=.returned v∧r.holds G'.μ ⟨w',G'.S⟩ v∧ObjG m1 w' G'∧
      (∀ b,G.S b→G'.S b)∧(∀ b,G'.S b→G.S b∨w.heap.size≤b∨∃ o,b∈G.φ o)∧(∀ o b,b∈G'.φ o→w.heap.size≤b∨∃ o',b∈G.φ o')∧
      G.μ.le G'.μ∧FrF (fun b=>∃ o,b∈G.φ o) w w') a'.defers .returning w':=by
    rintro ⟨⟨l,rfl,hl⟩,hm,hm0⟩
    refine leaves_of _ a' w' rfl hG fun a2 w2 ht h2=>?_
    obtain ⟨v,hv,hh⟩:=results_run h2 hl
    refine ⟨v,hv,v,⟨muK K G',aftS K G',fun o=>if K o=true then G'.φ o else []⟩,rfl,hh,?_,?_,?_,?_,?_,?_⟩
    · exact {
        gens:=fun o=>by
          by_cases hk:K o=true
          · have:=h2.gens o
            simp only [muK,hk,if_true]
            have hf:=hm o hk
            rw [this]
            generalize σ'.mem o=x at hf
            generalize m1 o=y at hf
            cases hf<;>rfl
          · have hk':K o=false:=by simpa using hk
            simp [muK,hk',hm0 o hk']
        mem:=fun o n mo ho=>by
          by_cases hk:K o=true
          · have hf:=hm o hk
            simp only [muK,hk,if_true]
            rw [ho] at hf
            generalize hx:σ'.mem o=x at hf
            have base:∀ (n:Nat) (mo:MO),(∀ m fp,mo.holds G'.μ ⟨w2,G'.S⟩ m fp→mo.holds (muK K G') ⟨w2,aftS K G'⟩ m fp)→σ'.mem o=(n,some mo)→
                ∃ g m,n=g+1∧(G'.μ o)[g]?=some m∧mo.holds (muK K G') ⟨w2,aftS K G'⟩ m (G'.φ o):=fun n mo hq hx=>by
              obtain ⟨g,m,k1,k2,k3⟩:=h2.mem o n mo hx
              exact ⟨g,m,k1,k2,hq _ _ k3⟩
            cases hf with
            | buf=>exact base _ _ (fun m fp hh=>hh.mono (μ:=G'.μ) (μ':=G'.μ) (Mu.le.refl _) le_aft fun _ _=>rfl) hx
            | frz=>exact base _ _ (fun m fp hh=>hh.mono (μ:=G'.μ) (μ':=G'.μ) (Mu.le.refl _) le_aft fun _ _=>rfl) hx
            | abs=>exact base _ _ (fun m fp hh=>hh.mono (μ:=G'.μ) (μ':=G'.μ) (Mu.le.refl _) le_aft fun _ _=>rfl) hx
            | box hf=>
              obtain ⟨g,m,k1,k2,b,arr,k3,k4,k5,k6⟩:=h2.mem o _ _ hx
              exact ⟨g,m,k1,k2,b,arr,k3,k4,k5,FinL.holds h2 hf k6⟩
          · have hk':K o=false:=by simpa using hk
            rw [hm0 o hk'] at ho;simp at ho
        apart:=fun o o' b hne h1 h2'=>by
          by_cases hk:K o=true<;>simp only [hk,if_true,if_false] at h1
          · by_cases hk':K o'=true<;>simp only [hk',if_true,if_false] at h2'
            · exact h2.apart o o' b hne h1 h2'
            · simp at h2'
          · simp at h1
        stab:=fun o b hb hs=>by
          by_cases hk:K o=true<;>simp only [hk,if_true,if_false] at hb
          · rcases hs with hs | ⟨o',hk',hs⟩
            · exact h2.stab o b hb hs
            · refine h2.apart o o' b (fun e=>?_) hb hs
              rw [e,hk'] at hk;cases hk
          · simp at hb
        own:=fun o b hb=>by
          by_cases hk:K o=true<;>simp only [hk,if_true,if_false] at hb
          · exact (h2.own o b hb).2
          · simp at hb
        sbd:=fun b hb=>by
          rcases hb with hb | ⟨o,_,hb⟩
          · exact (h2.sbd b hb).1
          · exact (h2.own o b hb).2 }
    · exact fun b hb=>.inl (h2.ssub b hb)
    · rintro b (hb | ⟨o,_,hb⟩)
      · exact hsub b hb
      · rcases hown o b hb with h1|h1
        · exact .inr (.inl h1)
        · exact .inr (.inr h1)
    · intro o b hb
      by_cases hk:K o=true<;>simp only [hk,if_true,if_false] at hb
      · exact hown o b hb
      · simp at hb
    · intro o g x hx
      have:=h2.mle o g x hx
      by_cases hk:K o=true
      · simpa [muK,hk] using this
      · have hk':K o=false:=by simpa using hk
        have h3:=ho.gens o
        rw [hK o hk'] at h3
        have:G.μ o=[]:=List.eq_nil_of_length_eq_zero h3
        rw [this] at hx;simp at hx
    · exact ⟨h2.fr.os,h2.fr.tape,h2.fr.output,h2.fr.size,h2.fr.block⟩
  cases e with
  | ret=>exact fin hq
  | normal=>exact fin hq
  | exit id=>exact hq.elim
  | goto l=>exact hq.elim
  | panic ch=>exact hq.elim
  | outgrown=>exact hq.elim
theorem ocall_of {P:Program} {f:FuncId} {fn:Func} {body:Code} {args:List AV} {r:AV} (K:Nat→Bool) {m0 m1:Nat→Nat × Option MO} (hf:P.funcs[f]?=some fn) (hb:fn.body=some body)
    (hK:∀ o,K o=false→m0 o=(0,none))
    (h:∀ w0 F S0 M0,AWs ⟨P,w0,F,S0,max args.length fn.ntmps,none,M0⟩ [body] (RetO P fn r K m1) ⟨fun t=>args.getD t .un,m0⟩):OCall P f args m0 r m1:=
  fun w G vs ho ha=>ocall_at K hf hb hK ho ha (h w _ _ _)
theorem Ret.retO {P:Program} {fn:Func} {r:AV} {e:Exit} {σ:St} (h:Ret P fn r e σ):RetO P fn r kNone (fun _=>(0,none)) e σ:=by
  cases e<;>first|exact h.elim|exact ⟨h,fun o hk=>absurd hk (by simp [kNone]),fun _ _=>rfl⟩
theorem pcall_of_ocall {P:Program} {f:FuncId} {args:List AV} {r:AV} (h:OCall P f args (fun _=>(0,none)) r (fun _=>(0,none))):PCall P f args r:=by
  intro w S vs hS ha
  refine (h w ⟨Mu.none,S,fun _=>[]⟩ vs ⟨fun o=>rfl,fun o n mo ho=>by simp at ho,fun o o' b _ hb=>by simp at hb,fun o b hb=>by simp at hb,fun o b hb=>by simp at hb,hS⟩ ha).mono ?_
  rintro e w' ⟨v,G',rfl,hr,ho,h1,h2,h3,h4,h5⟩
  have hmu:G'.μ=Mu.none:=funext fun o=>List.eq_nil_of_length_eq_zero (ho.gens o)
  rw [hmu] at hr
  refine ⟨v,rfl,⟨G'.S,h1,fun b hb=>?_,hr⟩,⟨h5.os,h5.tape.eq,h5.output,h5.size,fun k hk=>h5.block k hk fun ⟨o,ho⟩=>by simp at ho⟩,h5.tape.le⟩
  rcases h2 b hb with h6|h6 | ⟨o,h6⟩
  · exact .inl h6
  · exact .inr ⟨h6,ho.sbd b hb⟩
  · simp at h6
theorem pcall_of {P:Program} {f:FuncId} {fn:Func} {body:Code} {args:List AV} {r:AV} (hf:P.funcs[f]?=some fn) (hb:fn.body=some body)
    (h:∀ w0 F S0 M0,AWs ⟨P,w0,F,S0,max args.length fn.ntmps,none,M0⟩ [body] (Ret P fn r) (St.init args)):PCall P f args r:=
  pcall_of_ocall (ocall_of kNone hf hb (fun _ _=>rfl) fun w0 F S0 M0=>aws_mono (fun e s hq=>hq.retO) (h w0 F S0 M0))
/-! ### Calling -/
def Ent (a b:AV):Prop:=∀ μ X v,a.holds μ X v→b.holds Mu.none X v
theorem Ent.p {x:PVal}:Ent (.p x) (.p x):=fun μ X v h=>h
theorem Ent.nil {es:Nat} {ex:Bool}:Ent (.p (.v (.slice none 0 0))) (.p (.sl es [] ex)):=by
  rintro μ X v ⟨rfl,_⟩
  exact ⟨none,0,rfl,Nat.le_refl _,by simp [maxLen],fun _=>rfl,rfl,rfl⟩
theorem Ent.ex {es:Nat} {rows:List (List PVal)}:Ent (.p (.sl es rows true)) (.p (.sl es rows false)):=by
  rintro μ X v ⟨base,cap,h1,h2,h3,h4,h5⟩
  exact ⟨base,cap,h1,h2,h3,by simp,h5⟩
def AC.isP:AC→Bool | .p _=>true|_=>false
theorem AC.holds.none {μ:Mu} {X:Wd} {c:AC} {v:Value} (hc:c.isP=true) (h:c.holds μ X v):c.holds Mu.none X v:=by
  cases c<;>simp_all [AC.isP,AC.holds]
theorem Ent.agg {cs:List AC} (h:∀ c∈cs,c.isP=true):Ent (.a cs) (.a cs):=by
  rintro μ X v ⟨arr,rfl,h1⟩
  refine ⟨arr,rfl,h1.1,fun i c x hc hx=>(h1.2 i c x hc hx).none (h c (List.mem_of_getElem? hc))⟩
theorem calls_frame {C:Ctx} {σ:St} {a:Act} {w:World} {G:Gh} (h:RelG C σ a w G) {f:FuncId} {args:List AV} {r:AV} (hc:PCall C.P f args r) {vs:List Value} (hv:All2 (AV.holds Mu.none ⟨w,G.S⟩) args vs)
    {d:Option Nat} (hd:dOk C d=true) {K:Act→World→Prop} {Q:Exit→Act→World→Prop} (hK:∀ a' w',Rel C (σ.set d r) a' w'→K a' w') :
    Calls C.P f vs.toArray w fun
      | .returned v,w''=>K (a.put d v) w''
      | .panicked chain,w''=>Q (.panic chain) a w''
      | .outgrown,_=>LetsOut Q:=by
  refine (hc w G.S vs (fun b hb=>(h.sbd b hb).1) hv).mono ?_
  rintro e w' ⟨v,rfl,⟨S',hS1,hS2,hr⟩,hb,hdr⟩
  have h1:=h.world (Quiet.of_below hb hdr) (fun b=>w.heap.size≤b∧b < w'.heap.size) (fun b hb=>hb)
  exact hK _ _ ⟨_,h1.setv hd (hr.mono (Mu.none_le _) fun b hb'=>⟨hS2 b hb',rfl⟩)⟩
theorem lop_call {C:Ctx} {o:Oper} {σ:St} {f:FuncId} {as:Array Operand} {ts:Array TypeId} {args:List AV} {r:AV} [hfn:FnT C.P f] (ho:o.op=.call ⟨.value (.func f),as,ts⟩)
    (hE:All2 Ent (as.toList.map σ.look) args) (hc:PCall C.P f args r) (hd:dOk C o.dst=true):LOp C o σ ⟨r,[]⟩ (fun _=>false):=by
  refine ⟨fun x m h=>by simp at h,fun τ hl hm a w ⟨G,h⟩ K Q hK=>?_⟩
  have hE':All2 Ent (as.toList.map τ.look) args:=by
    have:as.toList.map τ.look=as.toList.map σ.look:=List.map_congr_left fun x hx=>hl x (by rw [ho];simp [Op.operands,Call.operands];right;simpa using hx)
    rw [this];exact hE
  have hv:All2 (AV.holds Mu.none ⟨w,G.S⟩) args (as.toList.map a.eval):=by
    refine ⟨by have:=hE'.1;simpa using this.symm,fun i av v hav hvv=>?_⟩
    rw [List.getElem?_map] at hvv
    cases hx:as.toList[i]? with
    | none=>rw [hx] at hvv;cases hvv
    | some x=>
      rw [hx] at hvv;simp at hvv;subst hvv
      exact hE'.2 i (τ.look x) av (by simp [List.getElem?_map,hx]) hav _ _ _ (h.look x)
  obtain ⟨fn,h1,h2,h3⟩:=hfn.fn
  have hrun:(execOp a.eval o).run C.P w=.ok (.enter f (as.map a.eval)) w:=by
    have e1:a.eval (.func f)=.func (.func f) #[] #[]:=rfl
    have hname : (fn.name == "runtime.NumGoroutine") = false := h2
    cases hbody:fn.body with
    | none=>simp [hbody] at h3
    | some c => simp [execOp, ho, resolve, e1, Deferred.ofValue, invoke, callFunc, program, Sem.run, Sem.run_bind, h1, hbody, pure, show ¬ fn.name = "runtime.NumGoroutine" from by simpa using hname]
  refine wpIn_exec (by rw [ho];intro c h;cases h) ?_
  rw [hrun,Oper.uponIn_enter]
  have h9:=calls_frame h hc hv (d:=o.dst) hd (K:=K) (Q:=Q) hK
  have e:(as.toList.map a.eval).toArray=as.map a.eval:=by rw [← Array.toList_map]
  rw [e] at h9
  exact ⟨by simp [fz,Fence.wide],(callsIn_wide (n:=0)).2 h9⟩
end Go.Aw
