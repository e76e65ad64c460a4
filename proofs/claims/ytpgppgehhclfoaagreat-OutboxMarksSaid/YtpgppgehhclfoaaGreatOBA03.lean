/- The layer's texts CoreK, CoreL, CoreM, CoreO, one behind the other. -/
import Derived.Test.YtpgppgehhclfoaaGreatOBA02
import Derived.Laws.MakeOwn
import Derived.Lib.SliceRun
/- THE ABSTRACT WALK, part 11: what a walk may say anew of a state; more operations. -/
namespace Go.Aw
open Go Go.RowKit
set_option linter.unusedVariables false
set_option linter.unusedSimpArgs false
/-! ### A state, said otherwise -/
def Says (C:Ctx) (σ τ:St):Prop:=∀ a w,Rel C σ a w→Rel C τ a w
theorem aws_says {C:Ctx} {σ τ:St} {c:Code} {k:List Code} {Q:Exit→St→Prop} (h:Says C σ τ) (hk:AWs C (c::k) Q τ):AWs C (c::k) Q σ:=fun a w hr=>hk a w (h a w hr)
theorem rn_says {C:Ctx} {ops:Array Oper} {o:Oper} {rest:List Oper} {K:St→Prop} {σ τ:St} (h:Says C σ τ) (hg:o.guard=none) (hk:RunN C ops (o::rest) K τ):RunN C ops (o::rest) K σ:=by
 rcases hk with ⟨g,τ',h1,h2⟩ | ⟨g,_⟩
 ·exact .inl ⟨by unfold Guard;rw [hg],τ',fun a w hr=>h1 a w (h a w hr),h2⟩
 ·unfold Guard at g;rw [hg] at g;cases g
theorem RelG.alias {C:Ctx} {σ:St} {a:Act} {w:World} {G:Gh} (h:RelG C σ a w G) {t:Nat} {v:AV} (hv:v.holds G.μ ⟨w,G.S⟩ (a.tmps.getD t undef)):RelG C (σ.set (some t) v) a w G:=
 { h with
  env:=fun s=>by
   simp only [St.set]
   by_cases hs:s=t
   ·subst hs;simpa using hv
   ·simpa [hs] using h.env s }
theorem says_nil {C:Ctx} {σ:St} {t o n ty es:Nat} {mo:Option MO} (hv:σ.env t=.p (.v (.slice none 0 0))) (hm:σ.mem o=(n,mo)) (hes:0 < es) :
  Says C σ ((σ.put o (n+1,some (.buf ty es []))).set (some t) (.o (.osl o n es 0 0))):=by
 rintro a w ⟨G,h⟩
 have hlen:(G.μ o).length=n:=by have:=h.gens o;rw [hm] at this;exact this
 have hu:=h.upd (o:=o) (n':=n+1) (mo':=some (.buf ty es [])) (μo:=G.μ o++[(none,0)]) (fp':=[]) (w':=w) (fun g x hx=>by
  rw [List.getElem?_append_left (List.getElem?_eq_some_iff.1 hx).1];exact hx) (by simp [hlen]) rfl .same rfl (Nat.le_refl _) (fun _ _ _=>rfl) (fun b hb=>by simp at hb) (fun mo hmo=>by
   obtain rfl:=Option.some.inj hmo
   exact ⟨n,(none,0),rfl,by simp [hlen],hes,by simp [maxLen],Nat.le_refl _,.inl ⟨rfl,rfl,rfl⟩⟩)
 have h1:=h.env t
 rw [hv] at h1
 refine ⟨_,hu.alias ?_⟩
 refine ⟨none,0,by simp [hlen],Nat.le_refl _,?_⟩
 simpa using h1.1
theorem sl_of_buf {μ:Mu} {X:Wd} {m:Option Nat} {c:Nat} {v:Value} {es ty:Nat} {rows:List (List PVal)} (hc:c≤maxLen) (hl:rows.length≤c) (h3:(m=none∧c=0)∨∃ b arr,m=some b∧X.S b∧X.w.heap[b]?=some (.cells arr ty (0,0))∧RowsAt X arr 0 es rows)
  (h:v=.slice (m.map fun b=>⟨b,0,none⟩) rows.length c):(PVal.sl es rows false).holds X v:=by
 refine ⟨m.map fun b=>⟨b,0,none⟩,c,h,hl,hc,by simp,?_⟩
 rcases h3 with ⟨rfl,rfl⟩ | ⟨b,arr,rfl,k1,k2,k3⟩
 ·exact ⟨List.eq_nil_of_length_eq_zero (by omega),rfl⟩
 ·exact .inr ⟨rfl,k1,arr,ty,(0,0),k2,by simpa using k3⟩
theorem says_frz {C:Ctx} {σ:St} {t o g n ty es len:Nat} {rows:List (List PVal)} (hv:σ.env t=.o (.osl o g es 0 len)) (hm:σ.mem o=(n,some (.buf ty es rows))) (hn:n=g+1) (hl:len=rows.length) :
  Says C σ ((σ.put o (n,some (.frz ty es rows))).set (some t) (.p (.sl es rows false))):=by
 subst hn hl
 rintro a w ⟨G,h⟩
 obtain ⟨g',m,hg,hmm,hes,hmax,hrl,hh⟩:=h.mem o _ _ hm
 obtain rfl:g=g':=by omega
 have hh':(m.1=none∧m.2=0)∨∃ b arr,m.1=some b∧(G.S b∨b∈G.φ o)∧w.heap[b]?=some (.cells arr ty (0,0))∧RowsAt ⟨w,fun b=>G.S b∨b∈G.φ o⟩ arr 0 es rows:=by
  rcases hh with ⟨h3,h4,_⟩ | ⟨b,arr,h3,h4,h5,h6,h7⟩
  ·exact .inl ⟨h3,h4⟩
  ·refine .inr ⟨b,arr,h3,.inr (by rw [h4];simp),h5,fun i row hr=>⟨(h7 i row hr).1,fun j p hp=>?_⟩⟩
   obtain ⟨c,hc,hp'⟩:=(h7 i row hr).2 j p hp
   exact ⟨c,hc,p.mono (x:=⟨w,G.S⟩) (fun b hb=>⟨.inl hb,rfl⟩) hp'⟩
 have hf:=h.freeze (o:=o) (mo':=some (.frz ty es rows)) hm (fun x hx=>by
  obtain rfl:=Option.some.inj hx
  exact ⟨g,m,rfl,hmm,rfl,hmax,hrl,hh'⟩)
 have h1:=h.env t
 rw [hv] at h1
 obtain ⟨m',c,k1,k2,k3⟩:=h1
 rw [k1] at hmm;obtain rfl:=Option.some.inj hmm
 refine ⟨_,hf.alias ?_⟩
 exact sl_of_buf (μ:=G.μ) (ty:=ty) hmax hrl hh' (by simpa using k3)
theorem says_frz2 {C:Ctx} {σ:St} {t o g n ty es len:Nat} {rows:List (List PVal)} (hv:σ.env t=.o (.osl o g es 0 len)) (hm:σ.mem o=(n,some (.frz ty es rows))) (hn:n=g+1) (hl:len=rows.length) :
  Says C σ (σ.set (some t) (.p (.sl es rows false))):=by
 subst hn hl
 rintro a w ⟨G,h⟩
 obtain ⟨g',m,hg,hmm,hes,hmax,hrl,hh⟩:=h.mem o _ _ hm
 obtain rfl:g=g':=by omega
 have h1:=h.env t
 rw [hv] at h1
 obtain ⟨m',c,k1,k2,k3⟩:=h1
 rw [k1] at hmm;obtain rfl:=Option.some.inj hmm
 exact ⟨_,h.alias (sl_of_buf (μ:=G.μ) (ty:=ty) hmax hrl hh (by simpa using k3))⟩
section ops
variable {C:Ctx} {o:Oper} {σ:St}
theorem lop_min {x y:Operand} {T1 T2:TypeId} {k:IntKind} {m n:Int} (ho:o.op=.call ⟨.builtin .min,#[x,y],#[T1,T2]⟩) (hx:σ.look x=.p (.v (.int k m))) (hy:σ.look y=.p (.v (.int k n))) (hd:dOk C o.dst=true) :
  LOp C o σ ⟨.p (.v (.int k (if n < m then n else m))),[]⟩ (fun _=>false):=
 lop_val hd fun τ a w G hl hm h=>by
  have e1:=val_of h ((hl x (by simp [ho,Op.operands,Call.operands])).trans hx)
  have e2:=val_of h ((hl y (by simp [ho,Op.operands,Call.operands])).trans hy)
  exact ⟨_,by simp [execOp,ho,resolve,invoke,builtin,e1,e2,Builtin.min_,Builtin.min2],rfl,rfl⟩
theorem lop_max {x y:Operand} {T1 T2:TypeId} {k:IntKind} {m n:Int} (ho:o.op=.call ⟨.builtin .max,#[x,y],#[T1,T2]⟩) (hx:σ.look x=.p (.v (.int k m))) (hy:σ.look y=.p (.v (.int k n))) (hd:dOk C o.dst=true) :
  LOp C o σ ⟨.p (.v (.int k (if n > m then n else m))),[]⟩ (fun _=>false):=
 lop_val hd fun τ a w G hl hm h=>by
  have e1:=val_of h ((hl x (by simp [ho,Op.operands,Call.operands])).trans hx)
  have e2:=val_of h ((hl y (by simp [ho,Op.operands,Call.operands])).trans hy)
  exact ⟨_,by simp [execOp,ho,resolve,invoke,builtin,e1,e2,Builtin.max_,Builtin.max2],rfl,rfl⟩
/-! pointers -/
theorem lop_nilCheck {x:Operand} {ob g off:Nat} (ho:o.op=.nilCheck x) (hx:σ.look x=.o (.ptr ob g off)) (hd:dOk C o.dst=true):LOp C o σ ⟨.o (.ptr ob g off),[]⟩ (fun _=>false):=
 lop_val hd fun τ a w G hl hm h=>by
  obtain ⟨b,c,h1,h2⟩:=look_of h ((hl x (by simp [ho,Op.operands])).trans hx)
  exact ⟨_,by simp only [execOp,ho,h2];rfl,b,c,h1,rfl⟩
theorem lop_ptr_eqnil {t e t':TypeId} {x y:Operand} {sz by_:Nat} [hT:TI C.P t (.ptr e) sz by_] {ob g off:Nat} (ho:o.op=.binOp .eql t x y t') (hx:σ.look x=.o (.ptr ob g off)) (hy:σ.look y=.p (.v (.pointer none))) (hd:dOk C o.dst=true) :
  LOp C o σ ⟨.p (.v (.bool false)),[]⟩ (fun _=>false):=
 lop_val hd fun τ a w G hl hm h=>by
  obtain ⟨b,c,h1,h2⟩:=look_of h ((hl x (by simp [ho,Op.operands])).trans hx)
  have e2:=val_of h ((hl y (by simp [ho,Op.operands])).trans hy)
  obtain ⟨d,hdd,hk⟩:=hT.undd
  have:d=.pointer e:=by cases d<;>simp [TK.of] at hk;rw [hk]
  subst this
  refine ⟨.bool false,?_,rfl,rfl⟩
  have hr:=run_eql_pointer_nil (P:=C.P) w t (some ⟨b,off,none⟩) (by simp [Program.pointee,hdd])
  simp only [execOp,ho,h2,e2,Sem.run_bind]
  have hg:(eqGuard .eql t x y (.pointer (some ⟨b,off,none⟩)) (.pointer none)).run C.P w=.ok () w:=by
   unfold eqGuard;simp [pure]
  rw [hg];simp [hr]
theorem lop_nil_eqnil {t e t':TypeId} {x y:Operand} {sz by_:Nat} [hT:TI C.P t (.ptr e) sz by_] (ho:o.op=.binOp .eql t x y t') (hx:σ.look x=.p (.v (.pointer none))) (hy:σ.look y=.p (.v (.pointer none))) (hd:dOk C o.dst=true) :
  LOp C o σ ⟨.p (.v (.bool true)),[]⟩ (fun _=>false):=
 lop_val hd fun τ a w G hl hm h=>by
  have h2:=val_of h ((hl x (by simp [ho,Op.operands])).trans hx)
  have e2:=val_of h ((hl y (by simp [ho,Op.operands])).trans hy)
  obtain ⟨d,hdd,hk⟩:=hT.undd
  have:d=.pointer e:=by cases d<;>simp [TK.of] at hk;rw [hk]
  subst this
  refine ⟨.bool true,?_,rfl,rfl⟩
  have hr:=run_eql_pointer_nil (P:=C.P) w t none (by simp [Program.pointee,hdd])
  simp only [execOp,ho,h2,e2,Sem.run_bind]
  have hg:(eqGuard .eql t x y (.pointer none) (.pointer none)).run C.P w=.ok () w:=by
   unfold eqGuard;simp [pure]
  rw [hg];simp [hr]
/-! own slices -/
theorem lop_indexAddr_osl {T e:TypeId} {x ix:Operand} {sz by_:Nat} [hT:TI C.P T (.slice e) sz by_] {ke:TK} {sze be:Nat} [he:TI C.P e ke sze be] {ob g n len ty:Nat} {rows:List (List PVal)} {k:IntKind} {i:Int}
  (ho:o.op=.indexAddr T x ix) (hx:σ.look x=.o (.osl ob g sze 0 len)) (hm:σ.mem ob=(n,some (.buf ty sze rows))) (hn:n=g+1) (hl:len≤rows.length) (hi:σ.look ix=.p (.v (.int k i))) (h0:0≤i) (hb:i < len) (hd:dOk C o.dst=true) :
  LOp C o σ ⟨.o (.ptr ob g (i.toNat * sze)),[]⟩ (fun y=>y == ob):=
 lop_val hd fun τ a w G hl' hm' h=>by
  subst hn
  obtain ⟨m,c,h1,h2,h3⟩:=look_of h ((hl' x (by simp [ho,Op.operands])).trans hx)
  have e2:=val_of h ((hl' ix (by simp [ho,Op.operands])).trans hi)
  obtain ⟨g',m',hg,hmm,hes,hmax,hrl,hh⟩:=h.mem ob _ _ (by rw [hm' ob (by simp)];exact hm)
  obtain rfl:g=g':=by omega
  rw [h1] at hmm;obtain rfl:=Option.some.inj hmm
  rcases hh with ⟨h4,h5,_⟩ | ⟨b,arr,h4,h5,h6,h7,h8⟩
  ·simp only at h5 hrl;omega
  ·simp only at h4;subst h4
   obtain ⟨d,hdd,hk⟩:=hT.undd
   have:d=.slice e:=by cases d<;>simp [TK.of] at hk;rw [hk]
   subst this
   refine ⟨.pointer (some ⟨b,i.toNat * sze,none⟩),?_,b,c,h1,rfl⟩
   have hb':0≤i∧i < (len:Int):=⟨h0,hb⟩
   simp [execOp,ho,h3,e2,Instr.indexAt,asIntOf,run_underlying hdd,hb',he.run_sizeOf,add_addr]
theorem lop_load_buf {T:TypeId} {x:Operand} {k:TK} {sz by_:Nat} [hT:TI C.P T k sz by_] {ob g n ty i:Nat} {rows:List (List PVal)} {p:PVal} (ho:o.op=.load T x) (hx:σ.look x=.o (.ptr ob g (i * 1))) (hm:σ.mem ob=(n,some (.buf ty 1 rows))) (hn:n=g+1)
  (hk:k.agg=false) (hs:sz=1) (hr:rows[i]?=some [p]) (hd:dOk C o.dst=true):LOp C o σ ⟨.p p,[]⟩ (fun y=>y == ob):=
 lop_val hd fun τ a w G hl' hm' h=>by
  subst hn hs
  obtain ⟨b,c',h1,h2⟩:=look_of h ((hl' x (by simp [ho,Op.operands])).trans hx)
  obtain ⟨g',m',hg,hmm,hes,hmax,hrl,hh⟩:=h.mem ob _ _ (by rw [hm' ob (by simp)];exact hm)
  obtain rfl:g=g':=by omega
  rw [h1] at hmm;obtain rfl:=Option.some.inj hmm
  rcases hh with ⟨h4,_⟩ | ⟨b',arr,h4,h5,h6,h7,h8⟩
  ·simp at h4
  ·simp only [Option.some.injEq] at h4;subst h4
   obtain ⟨v,hv,hp⟩:=(h8 i _ hr).2 0 p rfl
   have hv':arr[i]?=some v:=by simpa using hv
   have hlt:i < arr.size:=(Array.getElem?_eq_some_iff.1 hv').1
   have hrun:=run_loadVar (P:=C.P) hT (w:=w) (b:=b) (off:=i) (arr:=arr.toList) (ty:=ty) (fr:=(0,0)) (by simpa using h6) (by simp;omega) (by simp)
   simp only [hk,Bool.false_eq_true,if_false] at hrun
   refine ⟨v,?_,hp⟩
   have:arr.toList.getD i undef=v:=by simp [hv']
   rw [this] at hrun
   simp [execOp,ho,h2,Instr.loadAt,Instr.sureAddr,hrun]
theorem lop_store_row {T:TypeId} {x y:Operand} {k:TK} {sz by_:Nat} [hT:TI C.P T k sz by_] {ob g n ty i:Nat} {rows:List (List PVal)} {row:List PVal} {s:SV} (ho:o.op=.store T x y) (hdst:o.dst=none) (hx:σ.look x=.o (.ptr ob g (i * sz))) (hy:σ.look y=.s s)
  (hsc:s.cells=row.map .p) (hrl:row.length=sz) (hm:σ.mem ob=(n,some (.buf ty sz rows))) (hn:n=g+1) (hi:i < rows.length):LOp C o σ ⟨.un,[(ob,(n,some (.buf ty sz (rows.set i row))))]⟩ (fun z=>z == ob):=
 lop_same (by simp) (by rw [hdst];rfl) hm fun τ a w G g0 m hl' hm' h hng hmm hh=>by
  subst hn
  obtain rfl:g=g0:=by omega
  obtain ⟨b,c',h1,h2⟩:=look_of h ((hl' x (by simp [ho,Op.operands])).trans hx)
  have h3:s.holds G.μ ⟨w,G.S⟩ (a.eval y):=look_of h ((hl' y (by simp [ho,Op.operands])).trans hy)
  obtain ⟨hes,hmax,hrl2,hh⟩:=hh
  rw [h1] at hmm;obtain rfl:=Option.some.inj hmm
  rcases hh with ⟨h4,_⟩ | ⟨b',arr,h4,h5,h6,h7,h8⟩
  ·simp at h4
  ·simp only [Option.some.injEq] at h4;subst h4
   have h9:=h3.cells
   rw [hsc] at h9
   have hvl:(a.eval y).cells.toList.length=sz:=by rw [← h9.1];simpa using hrl
   have hone:∀ u∈(a.eval y).cells.toList,u.oneCell'=true:=fun u hu=>by
    obtain ⟨j,hj,hu'⟩:=List.mem_iff_getElem.1 hu
    have hj':j < (row.map AC.p).length:=by rw [h9.1];exact hj
    exact (h9.2 j (row.map AC.p)[j] u (by simp [hj']) (by rw [← hu'];exact List.getElem?_eq_getElem _)).one
   have hmul:i * sz+sz≤arr.size:=by
    simp only at h7 hrl2
    rw [h7]
    calc i * sz+sz=(i+1) * sz:=by rw [Nat.add_mul,Nat.one_mul]
     _≤c' * sz:=Nat.mul_le_mul_right _ (by omega)
   have h6':w.heap[b]?=some (.cells arr.toList.toArray ty (0,0)):=by simpa using h6
   have hr:=run_storeVar hT h6' (off:=i * sz) (v:=a.eval y) (by simpa using hmul) (by simpa using hvl) hone
   have hle:Wd.le ⟨w,G.S⟩ ⟨w.setRow b (arr.toList.take (i * sz)++(a.eval y).cells.toList++arr.toList.drop (i * sz+sz)).toArray,G.S⟩:=fun k hk=>
    ⟨hk,setRow_other w b k _ fun e=>h.stab ob b (by rw [h5];simp) (e ▸ hk)⟩
   refine ⟨.skip,undef,w.setRow b (arr.toList.take (i * sz)++(a.eval y).cells.toList++arr.toList.drop (i * sz+sz)).toArray,?_,.inr ⟨rfl,rfl⟩,setRow_frame.1,setRow_frame.2.1,setRow_frame.2.2.1,setRow_frame.2.2.2,
    fun k _ hk=>setRow_other w b k _ fun e=>hk (by rw [h5,e];simp),⟨hes,hmax,by simpa using hrl2,.inr ⟨b,_,rfl,h5,setRow_heap w b _ _ ty _ h6',?_,?_⟩⟩,trivial⟩
   ·simp only [execOp,ho,h2,Instr.storeAt,Instr.sureAddr,Sem.run_bind,Sem.run_pure,Result.andThen_ok,hr]
   ·simp only [List.size_toArray,List.length_append,List.length_take,List.length_drop,Array.length_toList,hvl]
    rw [Nat.min_eq_left (by omega)]
    simp only at h7;omega
   ·intro q r hq
    by_cases hqi:q=i
    ·subst hqi
     rw [List.getElem?_set_self hi] at hq
     obtain rfl:=Option.some.inj hq
     refine ⟨hrl,fun j p hp=>?_⟩
     obtain ⟨v,hv,hpv⟩:=h9.get (i:=j) (a:=.p p) (by simp [hp])
     refine ⟨v,?_,p.mono hle hpv⟩
     have hj:j < (a.eval y).cells.toList.length:=(List.getElem?_eq_some_iff.1 hv).1
     simp only [Nat.zero_add,List.getElem?_toArray]
     rw [List.append_assoc,List.getElem?_append_right (by simp;omega),List.getElem?_append_left (by simp at hj ⊢;omega),← hv]
     congr 1;simp;omega
    ·rw [List.getElem?_set_ne (fun e=>hqi e.symm)] at hq
     obtain ⟨e1,e2⟩:=h8 q r hq
     refine ⟨e1,fun j p hp=>?_⟩
     obtain ⟨v,hv,hpv⟩:=e2 j p hp
     refine ⟨v,?_,p.mono hle hpv⟩
     have hj:j < sz:=by rw [← e1];exact (List.getElem?_eq_some_iff.1 hp).1
     rw [← hv]
     simp only [Nat.zero_add,List.getElem?_toArray]
     rcases Nat.lt_or_ge q i with hlt|hge
     ·have:q * sz+sz≤i * sz:=by
       calc q * sz+sz=(q+1) * sz:=by rw [Nat.add_mul,Nat.one_mul]
        _≤i * sz:=Nat.mul_le_mul_right _ hlt
      rw [List.append_assoc,List.getElem?_append_left (by simp;omega),List.getElem?_take,if_pos (by omega)];simp
     ·have:i * sz+sz≤q * sz:=by
       calc i * sz+sz=(i+1) * sz:=by rw [Nat.add_mul,Nat.one_mul]
        _≤q * sz:=Nat.mul_le_mul_right _ (by omega)
      rw [List.getElem?_append_right (by simp [hvl] at *;omega),List.getElem?_drop]
      simp only [List.length_append,List.length_take,Array.length_toList,hvl]
      rw [Nat.min_eq_left (by omega)]
      rw [show i * sz+sz+(q * sz+j - (i * sz+sz))=q * sz+j from by omega];simp
theorem lop_store_buf {T:TypeId} {x y:Operand} {k:TK} {sz by_:Nat} [hT:TI C.P T k sz by_] {ob g n ty i es:Nat} {rows:List (List PVal)} {p:PVal} (ho:o.op=.store T x y) (hdst:o.dst=none) (hx:σ.look x=.o (.ptr ob g (i * 1))) (hy:σ.look y=.p p) (hs:sz=1)
  (hm:σ.mem ob=(n,some (.buf ty es rows))) (he:es=1) (hn:n=g+1) (hi:i < rows.length):LOp C o σ ⟨.un,[(ob,(n,some (.buf ty es (rows.set i [p]))))]⟩ (fun z=>z == ob):=by
 subst hs he;exact lop_store_row (s:=.one (.p p)) ho hdst hx hy rfl rfl hm hn hi
theorem lop_append_ex {T e:TypeId} {x y:Operand} {sz by_:Nat} [hT:TI C.P T (.slice e) sz by_] {ke:TK} {es be:Nat} [he:TI C.P e ke es be] {z:List Value} [hz:TZ C.P e z] {rows news:List (List PVal)} {ro:Nat→Bool}
  (ho:o.op=.call ⟨.builtin .append,#[x,y],#[T,T]⟩) (hx:σ.look x=.p (.sl es rows true)) (hsrc:SrcOk C σ y es news ro) (hzl:z.length=es) (h63:rows.length+news.length≤maxLen) (hby:(rows.length+news.length) * be≤140737488355328) (hd:dOk C o.dst=true) :
  LOp C o σ ⟨.p (.sl es (rows++news) false),[]⟩ ro:=
 lop_grow hd fun τ a w G hl hm' h=>by
  obtain ⟨bs,cap0,p1,p2,p3,p4,p5⟩:=look_of h ((hl x (by simp [ho,Op.operands,Call.operands])).trans hx)
  obtain rfl:=p4 rfl
  obtain ⟨base,cap,h1,h2⟩:=hsrc τ a w G (hl y (by simp [ho,Op.operands,Call.operands])) (fun q hq=>hm' q hq) h
  obtain ⟨nvs,k1,k2,k3,k4⟩:=src_vals (τ:=τ) (a:=a) h2
  by_cases h0:news.length=0
  ·have hnil:news=[]:=List.eq_nil_of_length_eq_zero h0
   subst hnil
   have hr:=app_nothing (ty:=o.type) hT he (w:=w) (bs:=bs) (src:=base) (n:=rows.length) (cap:=rows.length) (c:=cap) (Nat.le_refl _)
   refine ⟨.slice bs rows.length rows.length,w,?_,Quiet.refl w,?_⟩
   ·simp only [execOp,ho,resolve,invoke,builtin,Sem.run_bind,Sem.run_pure,Result.andThen_ok,List.map_toArray,List.map_cons,List.map_nil,p1,h1,List.length_nil,hr]
   ·simp only [List.append_nil]
    have:(PVal.sl es rows false).holds ⟨w,G.S⟩ (.slice bs rows.length rows.length):=⟨bs,rows.length,rfl,p2,p3,by simp,p5⟩
    exact (PVal.sl es rows false).mono (x:=⟨w,G.S⟩) (fun b hb=>⟨.inl hb,rfl⟩) this
  ·have hold:∃ olds:List Value,((bs=none∧rows.length=0∧rows.length=0∧olds=[])∨∃ b,bs=some b∧olds.length=rows.length * es∧rows.length≤rows.length∧∀ j u,olds[j]?=some u→w.cell? (b.add j)=some u)∧
     olds.length=rows.length * es∧(∀ i row,rows[i]?=some row→row.length=es∧∀ j p,row[j]?=some p→∃ u,olds[i * es+j]?=some u∧p.holds ⟨w,G.S⟩ u):=by
    cases bs with
    | none=>
     obtain ⟨q1,q2⟩:=p5
     subst q1
     exact ⟨[],.inl ⟨rfl,rfl,rfl,rfl⟩,by simp,by simp⟩
    | some b=>
     rcases p5 with p5 | ⟨g1,g2,cs,ty,fr,g3,g4⟩
     ·subst p5
      exact ⟨[],.inr ⟨b,rfl,by simp,Nat.le_refl _,by simp⟩,by simp,by simp⟩
     have hcell:∀ j,w.cell? (b.add j)=cs[b.off+j]?:=fun j=>cell_at g1 g3 j
     obtain ⟨vs,q1,q2,q3,q4⟩:=rows_vals (X:=⟨w,G.S⟩) (es:=es) (f:=fun j=>w.cell? (b.add j)) rows (fun i row hr=>⟨(g4 i row hr).1,fun j p hp=>by
      obtain ⟨u,hu,hpu⟩:=(g4 i row hr).2 j p hp
      exact ⟨u,by simp only [hcell];rw [← hu];congr 1;omega,hpu⟩⟩)
     exact ⟨vs,.inr ⟨b,rfl,q1,Nat.le_refl _,fun j u hu=>q2 j u hu⟩,q1,q4⟩
   obtain ⟨olds,hb,hol,ho4⟩:=hold
   obtain ⟨cap',arr,hr,g1,g2,g3,g4⟩:=app_fresh (ty:=o.type) hT he hz hzl (w:=w) (src:=base) (m:=news.length) (c:=cap) (news:=nvs) hb k1 k2 (by omega) h63 hby
   refine ⟨.slice (some ⟨w.heap.size,0,none⟩) (rows.length+news.length) cap',w.drew.alloc (.cells arr e),by
    simp only [execOp,ho,resolve,invoke,builtin,Sem.run_bind,Sem.run_pure,Result.andThen_ok,List.map_toArray,List.map_cons,List.map_nil,p1,h1,hr],
    ⟨rfl,.same,rfl,by simp,fun k hk=>Below.heap_alloc w.drew _ k hk⟩,?_⟩
   refine ⟨some ⟨w.heap.size,0,none⟩,cap',by simp,by simpa using g1,g2,by simp,.inr ⟨rfl,.inr ⟨Nat.le_refl _,by simp⟩,arr,e,(0,0),heap_alloc_new w.drew _,?_⟩⟩
   have:=rowsAt_append (X:=⟨w,G.S⟩) (arr:=arr) (es:=es) (rows:=rows) (news:=news) (olds:=olds) (nvs:=nvs) hol k1 g4 ho4 k4
   intro i row hrow
   refine ⟨(this i row hrow).1,fun j p hp=>?_⟩
   obtain ⟨u,hu,hpu⟩:=(this i row hrow).2 j p hp
   refine ⟨u,by simpa using hu,p.mono (x:=⟨w,G.S⟩) (fun b hb=>⟨.inl hb,Below.heap_alloc w.drew _ b (h.sbd b hb).1⟩) hpu⟩
theorem lop_makeSlice {T e:TypeId} {x y:Operand} {sz by_:Nat} [hT:TI C.P T (.slice e) sz by_] {ke:TK} {es be:Nat} [he:TI C.P e ke es be] {v:Value} [hz:TZ C.P e [v]] {d n:Nat} {mo0:Option MO} {kx ky:IntKind} {m c:Int}
  (ho:o.op=.makeSlice T x y) (hdst:o.dst=some d) (hx:σ.look x=.p (.v (.int kx m))) (hy:σ.look y=.p (.v (.int ky c))) (hmc:m=c) (hes:es=1) (h0:0≤c) (h63:c≤9223372036854775807) (hby:(be:Int) * c≤281474976710656) (h1:v.oneCell'=true) (hm:σ.mem d=(n,mo0)) (hd:dOk C o.dst=true) :
  LOp C o σ ⟨.o (.osl d n es 0 c.toNat),[(d,(n+1,some (.buf e es (List.replicate c.toNat [.v v]))))]⟩ (fun q=>q == d):=
 lop_gen (by simp) hd hm fun τ a w G hl hm' h=>by
  subst hmc hes
  have e1:=val_of h ((hl x (by simp [ho,Op.operands])).trans hx)
  have e2:=val_of h ((hl y (by simp [ho,Op.operands])).trans hy)
  have hlen:(G.μ d).length=n:=by have:=h.gens d;rw [hm' d (by simp),hm] at this;exact this
  obtain ⟨dd,hdd,hkk⟩:=hT.undd
  have:dd=.slice e:=by cases dd<;>simp [TK.of] at hkk;rw [hkk]
  subst this
  obtain ⟨i,hi,his,hib⟩:=he.infoo
  have hzz:=hz.zero
  simp only [hi,Option.bind_some] at hzz
  cases hz0:i.zero with
  | none=>simp [hz0] at hzz
  | some zv=>
   simp only [hz0,Option.map_some,Option.some.injEq] at hzz
   have hzc:zv.cells = #[v]:=by rw [← Array.toList_inj];simpa using hzz
   have hr:=run_make (P:=C.P) w T e i zv hdd hi hz0 kx ky m m h0 (Int.le_refl _) (by rw [hib];exact hby) h63
   have hsz:(madeCells zv.cells (m.toNat * i.size)).size=m.toNat:=by rw [size_madeCells,his];omega
   refine ⟨.slice (some ⟨w.heap.size,0,none⟩) m.toNat m.toNat,w.alloc (.cells (madeCells zv.cells (m.toNat * i.size)) e),(some w.heap.size,m.toNat),[w.heap.size],?_,rfl,.same,rfl,by simp,fun k hk _=>Below.heap_alloc w _ k hk,by simp,?_,?_⟩
   ·simp only [execOp,ho,e1,e2,Sem.run_bind,hr,Result.andThen_ok,Sem.run_pure]
   ·refine ⟨by omega,by simp [maxLen];omega,by simp,.inr ⟨w.heap.size,_,rfl,rfl,heap_alloc_new w _,by simpa using hsz,?_⟩⟩
    intro q row hq
    rw [List.getElem?_replicate] at hq
    split at hq
    ·rename_i hlt
     obtain rfl:=Option.some.inj hq
     refine ⟨rfl,fun j p hp=>?_⟩
     cases j with
     | zero=>
      simp only [List.getElem?_cons_zero,Option.some.injEq] at hp;subst hp
      refine ⟨v,?_,rfl,h1⟩
      have hlt':q < m.toNat * i.size:=by rw [his];omega
      simp [madeCells,hzc,hlt',Nat.mod_one]
     | succ j=>simp at hp
    ·cases hq
   ·exact ⟨some w.heap.size,m.toNat,mu_new hlen,by simp,by simp⟩
end ops
end Go.Aw
/- THE ABSTRACT WALK, part 12: calls that are lent one object, or make one; steps in drawn regions that write. -/
namespace Go.Aw
open Go Go.RowKit
set_option linter.unusedVariables false
set_option linter.unusedSimpArgs false
class OC (P:Program) (f:FuncId) (args:List AV) (lent:List (Nat × (Nat × Option MO))) (fresh:List (Nat × Nat)) (pre:outParam Prop) (r:outParam AV) (upds:outParam (List (Nat × (Nat × Option MO)))):Prop where
 call:pre→OCAt P f args lent fresh r upds
class PtrIn (l:List AV) (c:outParam Nat):Prop where
 t:True
instance (priority:=high) {c g off:Nat} {l:List AV}:PtrIn (.s (.one (.ptr c g off))::l) c:=⟨trivial⟩
def rn1 (c:Nat):Rn:=fun k=>if k=1000 then some (c,none) else none
def rnF (q c n:Nat):Rn:=fun k=>if k=q then some (c,some n) else none
theorem OCall.one {P:Program} {f:FuncId} {args:List AV} {n:Nat} {mo:MO} {r:AV} {m1:Nat × Option MO} (h:OCall P f args (memL [(1000,(n,some mo))]) r (memL [(1000,m1)])) (c:Nat) :
  OCAt P f (args.map (AV.ren (rn1 c))) [(c,(n,some (mo.ren (rn1 c))))] [] (r.ren (rn1 c)) [(c,(m1.1,m1.2.map (MO.ren (rn1 c))))]:=by
 refine ocat_of (rn1 c) (fun x=>if x=c then some (1000,none) else none) h ?_ ?_ ?_ ?_ ?_ ?_
 ·intro k c' s
  unfold rn1
  by_cases hk:k=1000<;>by_cases hc:c'=c<;>simp [hk,hc]<;>(first|(intro e;exact absurd e.symm hc)|(intro e;exact absurd e.symm hk)|skip)
 ·intro k c' hk
  unfold rn1 at hk
  split at hk
  ·simp at hk;subst hk;rename_i h1;subst h1;simp [memL]
  ·cases hk
 ·intro k c' n' hk
  unfold rn1 at hk
  split at hk<;>simp at hk
 ·intro k hk
  unfold rn1 at hk
  split at hk
  ·cases hk
  ·rename_i h1;simp [memL,h1]
 ·intro c' k s hc
  split at hc
  ·rename_i h1;subst h1;simp at hc;obtain ⟨rfl,rfl⟩:=hc
   exact ⟨by simp [kIn],fun mem=>by simp [putsM,memL]⟩
  ·cases hc
 ·intro c' hc
  split at hc
  ·cases hc
  ·rename_i h1;simp only [kIn,Bool.or_false];exact Bool.eq_false_iff.2 fun hb=>h1 (Nat.eq_of_beq_eq_true hb)
theorem OCall.fresh1 {P:Program} {f:FuncId} {args:List AV} {r:AV} {m1:Nat × Option MO} {q:Nat} (h:OCall P f args (fun _=>(0,none)) r (memL [(q,m1)])) (c n:Nat) :
  OCAt P f (args.map (AV.ren (rnF q c n))) [] [(c,n)] (r.ren (rnF q c n)) [(c,(n+m1.1,m1.2.map (MO.ren (rnF q c n))))]:=by
 refine ocat_of (rnF q c n) (fun x=>if x=c then some (q,some n) else none) h ?_ ?_ ?_ ?_ ?_ ?_
 ·intro k c' s
  unfold rnF
  by_cases hk:k=q<;>by_cases hc:c'=c<;>simp [hk,hc]<;>(first|(intro e;exact absurd e.symm hc)|(intro e;exact absurd e.symm hk)|skip)
 ·intro k c' hk
  unfold rnF at hk
  split at hk<;>simp at hk
 ·intro k c' n' hk
  unfold rnF at hk
  split at hk
  ·simp at hk;obtain ⟨rfl,rfl⟩:=hk;simp
  ·cases hk
 ·intro k hk
  unfold rnF at hk
  split at hk
  ·cases hk
  ·rename_i h1;simp [memL,h1]
 ·intro c' k s hc
  split at hc
  ·rename_i h1;subst h1;simp at hc;obtain ⟨rfl,rfl⟩:=hc
   exact ⟨by simp [kIn],fun mem=>by simp [putsM,memL]⟩
  ·cases hc
 ·intro c' hc
  split at hc
  ·cases hc
  ·rename_i h1;simp only [kIn,Bool.or_false];exact Bool.eq_false_iff.2 fun hb=>h1 (Nat.eq_of_beq_eq_true hb)
theorem rows_get {α:Type} [Inhabited α] {f:α→List PVal} {l:List α} {i:Int} (h0:0≤i) (h:i < l.length):(l.map f)[i.toNat]?=some (f (l.getD i.toNat default)):=by
 have:i.toNat < l.length:=by omega
 rw [List.getElem?_map,List.getD_eq_getElem?_getD,List.getElem?_eq_getElem this];rfl
theorem u64_in {n:Int} (h:0≤n∧n < 18446744073709551616):IntKind.u64.wrap n=n:=by simp [IntKind.wrap,IntKind.bits,IntKind.signed];omega
theorem u32_in {n:Int} (h:0≤n∧n < 4294967296):IntKind.u32.wrap n=n:=by simp [IntKind.wrap,IntKind.bits,IntKind.signed];omega
theorem u16_in {n:Int} (h:0≤n∧n < 65536):IntKind.u16.wrap n=n:=by simp [IntKind.wrap,IntKind.bits,IntKind.signed];omega
theorem u8_in {n:Int} (h:0≤n∧n < 256):IntKind.u8.wrap n=n:=by simp [IntKind.wrap,IntKind.bits,IntKind.signed];omega
theorem lop_len_map {C:Ctx} {o:Oper} {σ:St} {T e:TypeId} {x:Operand} {sz by_:Nat} [hT:TI C.P T (.slice e) sz by_] {es:Nat} {α:Type} {l:List α} {f:α→List PVal} {ex:Bool} (ho:o.op=.call ⟨.builtin .len,#[x],#[T]⟩) (hx:σ.look x=.p (.sl es (l.map f) ex)) (hd:dOk C o.dst=true) :
  LOp C o σ ⟨.p (.v (.int .i64 l.length)),[]⟩ (fun _=>false):=by
 have:=lop_len_sl (o:=o) (hT:=hT) ho hx hd
 simpa using this
theorem lop_ix_sl {C:Ctx} {o:Oper} {σ:St} {T e:TypeId} {x ix:Operand} {sz by_:Nat} {ke:TK} {sze be:Nat} {rows:List (List PVal)} {ex:Bool} {k:IntKind} {i:Int} {row:List PVal}
  (ho:o.op=.indexAddr T x ix) (hT:TI C.P T (.slice e) sz by_) (he:TI C.P e ke sze be) (hx:σ.look x=.p (.sl sze rows ex)) (hi:σ.look ix=.p (.v (.int k i))) (h0:0≤i) (hb:rows[i.toNat]?=some row) (hd:dOk C o.dst=true):LOp C o σ ⟨.p (.at_ row),[]⟩ (fun _=>false):=lop_indexAddr_sl ho hx hi h0 hb hd
theorem lop_ld_at1 {C:Ctx} {o:Oper} {σ:St} {T:TypeId} {x:Operand} {k:TK} {sz by_:Nat} {row:List PVal} {p:PVal} (ho:o.op=.load T x) (hT:TI C.P T k sz by_) (hx:σ.look x=.p (.at_ row)) (hk:k.agg=false) (hs:sz=1) (hp:row[0]?=some p) (hd:dOk C o.dst=true):LOp C o σ ⟨.p p,[]⟩ (fun _=>false):=lop_load_at1 ho hx hk hs hp hd
section steps
variable {C:Ctx} {ops:Array Oper} {o:Oper} {rest:List Oper} {K:St→Prop} {σ:St} {e:Eff} {ro:Nat→Bool} {W:List (Nat × Nat)} {i:Nat}
theorem rk_wr {d:Nat} (hg:Guard ops σ o true) (hd':o.dst=some d) (hd:dOk C o.dst=true) (h:LOp C o σ e ro) (hro:∀ x,ro x=true→okObj ops W i x=true) (hob:∀ p∈e.obj,(i,p.1)∈W) (hk:RunK C ops W (i+1) rest K (e.app (some d) σ)):RunK C ops W i (o::rest) K σ:=by
 rw [← hd'] at hk;exact ⟨_,.inl ⟨hg,hd,ro,h,hro,fun x m hx=>hob (x,m) hx⟩,hk⟩
theorem ro_none {x:Nat}:(fun _:Nat=>false) x=true→okObj ops W i x=true:=fun h=>by cases h
theorem ro_one {c:Nat} (h:okObj ops W i c=true):∀ x,(fun y:Nat=>y == c) x=true→okObj ops W i x=true:=fun x hx=>by
 have:x=c:=by simpa using hx
 rw [this];exact h
theorem ro_kIn:∀ {l:List (Nat × (Nat × Option MO))},(∀ p∈l,okObj ops W i p.1=true)→∀ x,kIn l x=true→okObj ops W i x=true
 | [],_,x,hx=>by cases hx
 | p::l,h,x,hx=>by
  obtain ⟨k,m⟩:=p
  simp only [kIn,Bool.or_eq_true] at hx
  rcases hx with hx|hx
  ·rw [Nat.eq_of_beq_eq_true hx];exact h (k,m) (by simp)
  ·exact ro_kIn (fun p hp=>h p (by simp [hp])) x hx
theorem lop_oc1 {f:FuncId} {x0:Operand} {ts:Array TypeId} {a0 r:AV} {c n:Nat} {mo:MO} {pre:Prop} {upds:List (Nat × (Nat × Option MO))} (ho:o.op=.call ⟨.value (.func f),#[x0],ts⟩) (hfn:FnT C.P f) (h0:σ.look x0=a0) (hp:PtrIn [a0] c) (hm:σ.mem c=(n,some mo)) (hc:OC C.P f [a0] [(c,(n,some mo))] [] pre r upds) (hpre:pre) (hsub:kIn upds c=true) (hd:dOk C o.dst=true) :
  LOp C o σ ⟨r,upds⟩ (kIn upds):=
 lop_ocall ho hfn (.cons h0 (.nil)) (hc.call hpre) (fun p hp=>by simp at hp;subst hp;exact hm) (fun p hp=>by simp at hp) (fun p hp=>by simp at hp;subst hp;exact hsub) (fun p hp=>by simp at hp) hd
theorem lop_oc2 {f:FuncId} {x0 x1:Operand} {ts:Array TypeId} {a0 a1 r:AV} {c n:Nat} {mo:MO} {pre:Prop} {upds:List (Nat × (Nat × Option MO))} (ho:o.op=.call ⟨.value (.func f),#[x0,x1],ts⟩) (hfn:FnT C.P f) (h0:σ.look x0=a0) (h1:σ.look x1=a1) (hp:PtrIn [a0,a1] c) (hm:σ.mem c=(n,some mo)) (hc:OC C.P f [a0,a1] [(c,(n,some mo))] [] pre r upds) (hpre:pre) (hsub:kIn upds c=true) (hd:dOk C o.dst=true) :
  LOp C o σ ⟨r,upds⟩ (kIn upds):=
 lop_ocall ho hfn (.cons h0 (.cons h1 (.nil))) (hc.call hpre) (fun p hp=>by simp at hp;subst hp;exact hm) (fun p hp=>by simp at hp) (fun p hp=>by simp at hp;subst hp;exact hsub) (fun p hp=>by simp at hp) hd
theorem lop_oc3 {f:FuncId} {x0 x1 x2:Operand} {ts:Array TypeId} {a0 a1 a2 r:AV} {c n:Nat} {mo:MO} {pre:Prop} {upds:List (Nat × (Nat × Option MO))} (ho:o.op=.call ⟨.value (.func f),#[x0,x1,x2],ts⟩) (hfn:FnT C.P f) (h0:σ.look x0=a0) (h1:σ.look x1=a1) (h2:σ.look x2=a2) (hp:PtrIn [a0,a1,a2] c) (hm:σ.mem c=(n,some mo)) (hc:OC C.P f [a0,a1,a2] [(c,(n,some mo))] [] pre r upds) (hpre:pre) (hsub:kIn upds c=true) (hd:dOk C o.dst=true) :
  LOp C o σ ⟨r,upds⟩ (kIn upds):=
 lop_ocall ho hfn (.cons h0 (.cons h1 (.cons h2 (.nil)))) (hc.call hpre) (fun p hp=>by simp at hp;subst hp;exact hm) (fun p hp=>by simp at hp) (fun p hp=>by simp at hp;subst hp;exact hsub) (fun p hp=>by simp at hp) hd
theorem lop_oc4 {f:FuncId} {x0 x1 x2 x3:Operand} {ts:Array TypeId} {a0 a1 a2 a3 r:AV} {c n:Nat} {mo:MO} {pre:Prop} {upds:List (Nat × (Nat × Option MO))} (ho:o.op=.call ⟨.value (.func f),#[x0,x1,x2,x3],ts⟩) (hfn:FnT C.P f) (h0:σ.look x0=a0) (h1:σ.look x1=a1) (h2:σ.look x2=a2) (h3:σ.look x3=a3) (hp:PtrIn [a0,a1,a2,a3] c) (hm:σ.mem c=(n,some mo)) (hc:OC C.P f [a0,a1,a2,a3] [(c,(n,some mo))] [] pre r upds) (hpre:pre) (hsub:kIn upds c=true) (hd:dOk C o.dst=true) :
  LOp C o σ ⟨r,upds⟩ (kIn upds):=
 lop_ocall ho hfn (.cons h0 (.cons h1 (.cons h2 (.cons h3 (.nil))))) (hc.call hpre) (fun p hp=>by simp at hp;subst hp;exact hm) (fun p hp=>by simp at hp) (fun p hp=>by simp at hp;subst hp;exact hsub) (fun p hp=>by simp at hp) hd
theorem lop_of0 {f:FuncId} {ts:Array TypeId} { r:AV} {d n:Nat} {mo0:Option MO} {pre:Prop} {upds:List (Nat × (Nat × Option MO))} (ho:o.op=.call ⟨.value (.func f),#[],ts⟩) (hfn:FnT C.P f) (hdst:o.dst=some d)  (hm:σ.mem d=(n,mo0)) (hc:OC C.P f [] [] [(d,n)] pre r upds) (hpre:pre) (hsub:kIn upds d=true) (hd:dOk C o.dst=true) :
  LOp C o σ ⟨r,upds⟩ (kIn upds):=
 lop_ocall ho hfn (.nil) (hc.call hpre) (fun p hp=>by simp at hp) (fun p hp=>by simp at hp;subst hp;rw [hm]) (fun p hp=>by simp at hp) (fun p hp=>by simp at hp;subst hp;exact hsub) hd
theorem lop_of1 {f:FuncId} {x0:Operand} {ts:Array TypeId} {a0 r:AV} {d n:Nat} {mo0:Option MO} {pre:Prop} {upds:List (Nat × (Nat × Option MO))} (ho:o.op=.call ⟨.value (.func f),#[x0],ts⟩) (hfn:FnT C.P f) (hdst:o.dst=some d) (h0:σ.look x0=a0) (hm:σ.mem d=(n,mo0)) (hc:OC C.P f [a0] [] [(d,n)] pre r upds) (hpre:pre) (hsub:kIn upds d=true) (hd:dOk C o.dst=true) :
  LOp C o σ ⟨r,upds⟩ (kIn upds):=
 lop_ocall ho hfn (.cons h0 (.nil)) (hc.call hpre) (fun p hp=>by simp at hp) (fun p hp=>by simp at hp;subst hp;rw [hm]) (fun p hp=>by simp at hp) (fun p hp=>by simp at hp;subst hp;exact hsub) hd
theorem lop_of2 {f:FuncId} {x0 x1:Operand} {ts:Array TypeId} {a0 a1 r:AV} {d n:Nat} {mo0:Option MO} {pre:Prop} {upds:List (Nat × (Nat × Option MO))} (ho:o.op=.call ⟨.value (.func f),#[x0,x1],ts⟩) (hfn:FnT C.P f) (hdst:o.dst=some d) (h0:σ.look x0=a0) (h1:σ.look x1=a1) (hm:σ.mem d=(n,mo0)) (hc:OC C.P f [a0,a1] [] [(d,n)] pre r upds) (hpre:pre) (hsub:kIn upds d=true) (hd:dOk C o.dst=true) :
  LOp C o σ ⟨r,upds⟩ (kIn upds):=
 lop_ocall ho hfn (.cons h0 (.cons h1 (.nil))) (hc.call hpre) (fun p hp=>by simp at hp) (fun p hp=>by simp at hp;subst hp;rw [hm]) (fun p hp=>by simp at hp) (fun p hp=>by simp at hp;subst hp;exact hsub) hd
theorem lop_of3 {f:FuncId} {x0 x1 x2:Operand} {ts:Array TypeId} {a0 a1 a2 r:AV} {d n:Nat} {mo0:Option MO} {pre:Prop} {upds:List (Nat × (Nat × Option MO))} (ho:o.op=.call ⟨.value (.func f),#[x0,x1,x2],ts⟩) (hfn:FnT C.P f) (hdst:o.dst=some d) (h0:σ.look x0=a0) (h1:σ.look x1=a1) (h2:σ.look x2=a2) (hm:σ.mem d=(n,mo0)) (hc:OC C.P f [a0,a1,a2] [] [(d,n)] pre r upds) (hpre:pre) (hsub:kIn upds d=true) (hd:dOk C o.dst=true) :
  LOp C o σ ⟨r,upds⟩ (kIn upds):=
 lop_ocall ho hfn (.cons h0 (.cons h1 (.cons h2 (.nil)))) (hc.call hpre) (fun p hp=>by simp at hp) (fun p hp=>by simp at hp;subst hp;rw [hm]) (fun p hp=>by simp at hp) (fun p hp=>by simp at hp;subst hp;exact hsub) hd
end steps
end Go.Aw
/- THE ABSTRACT WALK, part 13: slices whose rows are a list's, mapped. -/
namespace Go.Aw
open Go Go.RowKit
set_option linter.unusedVariables false
set_option linter.unusedSimpArgs false
theorem finC_map {σ:St} {K:Nat→Bool} {o g es len n ty:Nat} {α:Type} {l:List α} {f:α→List PVal} (hK:K o=false) (hm:σ.mem o=(n,some (.buf ty es (l.map f)))) (hn:n=g+1) (hl:len=l.length):FinC σ K (.osl o g es 0 len) (.p (.sl es (l.map f) false)):=by
 subst hn hl
 have:=FinC.osl (lo:=0) (len:=l.length) hK hm (by simp)
 rw [List.drop_zero,List.take_of_length_le (by simp)] at this
 exact this
theorem rs {α:Type} {l m:List α} {f:α→List PVal} {es:Nat} {ex:Bool} (h:l=m):AV.p (.sl es (l.map f) ex)=.s (.one (.p (.sl es (m.map f) ex))):=by rw [h]
theorem ocall_of1 {P:Program} {f:FuncId} {fn:Func} {body:Code} {args:List AV} {r:AV} {m0 m1:Nat × Option MO} (hf:P.funcs[f]?=some fn) (hb:fn.body=some body)
  (h:∀ w0 F S0 M0,AWs ⟨P,w0,F,S0,max args.length fn.ntmps,none,M0⟩ [body] (RetO P fn r (kIn [(1000,m1)]) (memL [(1000,m1)])) ⟨fun t=>args.getD t .un,memL [(1000,m0)]⟩):OCall P f args (memL [(1000,m0)]) r (memL [(1000,m1)]):=by
 refine ocall_of (kIn [(1000,m1)]) hf hb (fun o ho=>?_) h
 simp only [kIn,Bool.or_false] at ho
 have hk:o≠1000:=fun e=>by rw [e] at ho;simp at ho
 simp [memL,hk]
theorem ocall_ofF (q:Nat) {P:Program} {f:FuncId} {fn:Func} {body:Code} {args:List AV} {r:AV} {m1:Nat × Option MO} (hf:P.funcs[f]?=some fn) (hb:fn.body=some body)
  (h:∀ w0 F S0 M0,AWs ⟨P,w0,F,S0,max args.length fn.ntmps,none,M0⟩ [body] (RetO P fn r (kIn [(q,m1)]) (memL [(q,m1)])) ⟨fun t=>args.getD t .un,fun _=>(0,none)⟩):OCall P f args (fun _=>(0,none)) r (memL [(q,m1)]):=
 ocall_of (kIn [(q,m1)]) hf hb (fun o ho=>rfl) h
def PVal.qb (q:Prop):PVal:=⟨fun _ v=>∃ b,v=.bool b∧(b=true→q),fun _ h=>h,fun h=>by obtain ⟨b,rfl,_⟩:=h;rfl⟩
theorem aws_if_qb {C:Ctx} {σ:St} {cd:Operand} {x y:Code} {k:List Code} {Q:Exit→St→Prop} {q:Prop} (hv:σ.look cd=.p (.qb q)) (h1:q→AWs C (x::k) Q σ) (h2:True→AWs C (y::k) Q σ):AWs C (.cond cd x y::k) Q σ:=by
 intro a w hr
 obtain ⟨G,hG⟩:=hr
 obtain ⟨b,hb,hq⟩:=look_of hG hv
 refine wpIn_cond_split hb (fun h=>?_) (fun h=>?_)
 ·exact h1 (hq h) a w ⟨G,hG⟩
 ·exact h2 trivial a w ⟨G,hG⟩
theorem lop_sl_eqnil {C:Ctx} {o:Oper} {σ:St} {t e t':TypeId} {x y:Operand} {sz by_ es:Nat} {rows:List (List PVal)} {ex:Bool} (ho:o.op=.binOp .eql t x y t') (hT:TI C.P t (.slice e) sz by_) (hx:σ.look x=.p (.sl es rows ex)) (hy:σ.look y=.p (.v (.slice none 0 0))) (hd:dOk C o.dst=true) :
  LOp C o σ ⟨.p (.qb (rows=[])),[]⟩ (fun _=>false):=
 lop_val hd fun τ a w G hl hm h=>by
  obtain ⟨bs,cap,p1,p2,p3,p4,p5⟩:=look_of h ((hl x (by simp [ho,Op.operands])).trans hx)
  have e2:=val_of h ((hl y (by simp [ho,Op.operands])).trans hy)
  obtain ⟨d,hdd,hk⟩:=hT.undd
  have:d=.slice e:=by cases d<;>simp [TK.of] at hk;rw [hk]
  subst this
  refine ⟨.bool bs.isNone,?_,bs.isNone,rfl,fun hb=>?_⟩
  ·have hg:(eqGuard .eql t x y (.slice bs rows.length cap) (.slice none 0 0)).run C.P w=.ok () w:=by
    unfold eqGuard;simp [pure]
   have hr:(binOp .eql t (.slice bs rows.length cap) (.slice none 0 0)).run C.P w=.ok (.bool bs.isNone) w:=by
    exact Go.Lib.run_eql_slice_nil w t e bs rows.length cap 0 0 hdd
   simp only [execOp,ho,p1,e2,Sem.run_bind,hg,Result.andThen_ok,hr,Sem.run_pure]
  ·cases bs with
   | none=>exact p5.1
   | some b=>simp at hb
section ops
variable {C:Ctx} {o:Oper} {σ:St} {T e:TypeId} {sz by_ es be:Nat} {ke:TK} {α:Type} {f:α→List PVal} {l m:List α} {ex:Bool} {x y xl xh xm:Operand} {kl kh km:IntKind} {lo hi mx:Int}
theorem lop_sl_l (ho:o.op=.slice T x (some xl) none none) (hT:TI C.P T (.slice e) sz by_) (he:TI C.P e ke es be) (hx:σ.look x=.p (.sl es (l.map f) ex)) (hlo:σ.look xl=.p (.v (.int kl lo))) (h0:0≤lo) (h1:lo≤l.length) (hd:dOk C o.dst=true) :
  LOp C o σ ⟨.p (.sl es ((l.drop lo.toNat).map f) ex),[]⟩ (fun _=>false):=by
 have:=lop_slice_l (o:=o) ho hx hlo h0 (by simpa using h1) hd
 rwa [← List.map_drop] at this
theorem lop_sl_h (ho:o.op=.slice T x none (some xh) none) (hT:TI C.P T (.slice e) sz by_) (he:TI C.P e ke es be) (hx:σ.look x=.p (.sl es (l.map f) ex)) (hhi:σ.look xh=.p (.v (.int kh hi))) (h0:0≤hi) (h1:hi≤l.length) (hd:dOk C o.dst=true) :
  LOp C o σ ⟨.p (.sl es ((l.take hi.toNat).map f) false),[]⟩ (fun _=>false):=by
 have:=lop_slice_h (o:=o) ho hx hhi h0 (by simpa using h1) hd
 rwa [← List.map_take] at this
theorem lop_sl_lh (ho:o.op=.slice T x (some xl) (some xh) none) (hT:TI C.P T (.slice e) sz by_) (he:TI C.P e ke es be) (hx:σ.look x=.p (.sl es (l.map f) ex)) (hlo:σ.look xl=.p (.v (.int kl lo))) (hhi:σ.look xh=.p (.v (.int kh hi))) (h0:0≤lo) (h01:lo≤hi) (h1:hi≤l.length) (hd:dOk C o.dst=true) :
  LOp C o σ ⟨.p (.sl es (((l.drop lo.toNat).take (hi.toNat - lo.toNat)).map f) false),[]⟩ (fun _=>false):=by
 have:=lop_slice_lh (o:=o) ho hx hlo hhi h0 h01 (by simpa using h1) hd
 rwa [← List.map_drop,← List.map_take] at this
theorem lop_sl_hm (ho:o.op=.slice T x none (some xh) (some xm)) (hT:TI C.P T (.slice e) sz by_) (he:TI C.P e ke es be) (hx:σ.look x=.p (.sl es (l.map f) ex)) (hhi:σ.look xh=.p (.v (.int kh hi))) (hmx:σ.look xm=.p (.v (.int km mx))) (h0:0≤hi) (hm:mx=hi) (h1:hi≤l.length) (hd:dOk C o.dst=true) :
  LOp C o σ ⟨.p (.sl es ((l.take hi.toNat).map f) true),[]⟩ (fun _=>false):=by
 have:=lop_slice_hm (o:=o) ho hx hhi hmx h0 hm (by simpa using h1) hd
 rwa [← List.map_take] at this
theorem lop_ap_ex {z:List Value} {ey:Bool} (ho:o.op=.call ⟨.builtin .append,#[x,y],#[T,T]⟩) (hT:TI C.P T (.slice e) sz by_) (he:TI C.P e ke es be) (hz:TZ C.P e z) (hx:σ.look x=.p (.sl es (l.map f) true)) (hy:σ.look y=.p (.sl es (m.map f) ey))
  (hzl:z.length=es) (h63:l.length+m.length≤maxLen) (hby:(l.length+m.length) * be≤140737488355328) (hd:dOk C o.dst=true) :
  LOp C o σ ⟨.p (.sl es ((l++m).map f) false),[]⟩ (fun _=>false):=by
 have:=lop_append_ex (o:=o) ho hx (src_sl hy) hzl (by simpa using h63) (by simpa using hby) hd
 rwa [← List.map_append] at this
theorem lop_ap_e0 {z:List Value} {ey:Bool} {rows:List (List PVal)} (ho:o.op=.call ⟨.builtin .append,#[x,y],#[T,T]⟩) (hT:TI C.P T (.slice e) sz by_) (he:TI C.P e ke es be) (hz:TZ C.P e z) (hx:σ.look x=.p (.sl es [] true)) (hy:σ.look y=.p (.sl es rows ey))
  (hzl:z.length=es) (h63:rows.length≤maxLen) (hby:rows.length * be≤140737488355328) (hd:dOk C o.dst=true) :
  LOp C o σ ⟨.p (.sl es rows false),[]⟩ (fun _=>false):=by
 have:=lop_append_ex (o:=o) ho hx (src_sl hy) hzl (by simpa using h63) (by simpa using hby) hd
 simpa using this
theorem lop_ap_o1 {z:List Value} {ey:Bool} {ob g n len:Nat} {v:α} {row:List PVal} (ho:o.op=.call ⟨.builtin .append,#[x,y],#[T,T]⟩) (hT:TI C.P T (.slice e) sz by_) (he:TI C.P e ke es be) (hz:TZ C.P e z) (hx:σ.look x=.o (.osl ob g es 0 len)) (hm:σ.mem ob=(n,some (.buf e es (l.map f)))) (hn:n=g+1) (hlr:len=l.length)
  (hy:σ.look y=.p (.sl es [row] ey)) (hrow:row=f v) (hzl:z.length=es) (h63:l.length+1≤maxLen) (hby:(l.length+1) * be≤140737488355328) (hd:dOk C o.dst=true) :
  LOp C o σ ⟨.o (.osl ob n es 0 (l++[v]).length),[(ob,(n+1,some (.buf e es ((l++[v]).map f))))]⟩ (fun q=>q == ob):=by
 subst hrow
 have:=lop_append_osl (o:=o) ho hx hm hn (by simpa using hlr) (src_sl hy) hzl (by simpa using h63) (by simpa using hby) hd
 simpa using this
theorem lop_ap_on {z:List Value} {ey:Bool} {ob g n len:Nat} (ho:o.op=.call ⟨.builtin .append,#[x,y],#[T,T]⟩) (hT:TI C.P T (.slice e) sz by_) (he:TI C.P e ke es be) (hz:TZ C.P e z) (hx:σ.look x=.o (.osl ob g es 0 len)) (hm:σ.mem ob=(n,some (.buf e es (l.map f)))) (hn:n=g+1) (hlr:len=l.length)
  (hy:σ.look y=.p (.sl es (m.map f) ey)) (hzl:z.length=es) (h63:l.length+m.length≤maxLen) (hby:(l.length+m.length) * be≤140737488355328) (hd:dOk C o.dst=true) :
  LOp C o σ ⟨.o (.osl ob n es 0 (l++m).length),[(ob,(n+1,some (.buf e es ((l++m).map f))))]⟩ (fun q=>q == ob):=by
 have:=lop_append_osl (o:=o) ho hx hm hn (by simpa using hlr) (src_sl hy) hzl (by simpa using h63) (by simpa using hby) hd
 simpa using this
theorem lop_bs0 {z:List Value} (ho:o.op=.buildSlice T 0 #[]) (hT:TI C.P T (.slice e) sz by_) (he:TI C.P e ke es be) (hz:TZ C.P e z) (hes1:es=1)  (hd:dOk C o.dst=true):LOp C o σ ⟨.p (.sl es [] true),[]⟩ (fun _=>false):=by
 subst hes1
 exact lop_buildSlice (ps:=[]) ho (.nil) rfl (by decide) (by decide) hd
theorem lop_bs1 {z:List Value} {x0:Operand} {p0:PVal} (ho:o.op=.buildSlice T 1 #[(0,x0)]) (hT:TI C.P T (.slice e) sz by_) (he:TI C.P e ke es be) (hz:TZ C.P e z) (hes1:es=1) (h0:σ.look x0=.p p0) (hd:dOk C o.dst=true):LOp C o σ ⟨.p (.sl es [[p0]] true),[]⟩ (fun _=>false):=by
 subst hes1
 exact lop_buildSlice (ps:=[(0,[p0])]) ho (.cons ⟨rfl,rfl,_,h0,rfl⟩ (.nil)) rfl (by decide) (by decide) hd
theorem lop_bs2 {z:List Value} {x0 x1:Operand} {p0 p1:PVal} (ho:o.op=.buildSlice T 2 #[(0,x0),(1,x1)]) (hT:TI C.P T (.slice e) sz by_) (he:TI C.P e ke es be) (hz:TZ C.P e z) (hes1:es=1) (h0:σ.look x0=.p p0) (h1:σ.look x1=.p p1) (hd:dOk C o.dst=true):LOp C o σ ⟨.p (.sl es [[p0],[p1]] true),[]⟩ (fun _=>false):=by
 subst hes1
 exact lop_buildSlice (ps:=[(0,[p0]),(1,[p1])]) ho (.cons ⟨rfl,rfl,_,h0,rfl⟩ (.cons ⟨rfl,rfl,_,h1,rfl⟩ (.nil))) rfl (by decide) (by decide) hd
theorem lop_bs3 {z:List Value} {x0 x1 x2:Operand} {p0 p1 p2:PVal} (ho:o.op=.buildSlice T 3 #[(0,x0),(1,x1),(2,x2)]) (hT:TI C.P T (.slice e) sz by_) (he:TI C.P e ke es be) (hz:TZ C.P e z) (hes1:es=1) (h0:σ.look x0=.p p0) (h1:σ.look x1=.p p1) (h2:σ.look x2=.p p2) (hd:dOk C o.dst=true):LOp C o σ ⟨.p (.sl es [[p0],[p1],[p2]] true),[]⟩ (fun _=>false):=by
 subst hes1
 exact lop_buildSlice (ps:=[(0,[p0]),(1,[p1]),(2,[p2])]) ho (.cons ⟨rfl,rfl,_,h0,rfl⟩ (.cons ⟨rfl,rfl,_,h1,rfl⟩ (.cons ⟨rfl,rfl,_,h2,rfl⟩ (.nil)))) rfl (by decide) (by decide) hd
theorem lop_bs4 {z:List Value} {x0 x1 x2 x3:Operand} {p0 p1 p2 p3:PVal} (ho:o.op=.buildSlice T 4 #[(0,x0),(1,x1),(2,x2),(3,x3)]) (hT:TI C.P T (.slice e) sz by_) (he:TI C.P e ke es be) (hz:TZ C.P e z) (hes1:es=1) (h0:σ.look x0=.p p0) (h1:σ.look x1=.p p1) (h2:σ.look x2=.p p2) (h3:σ.look x3=.p p3) (hd:dOk C o.dst=true):LOp C o σ ⟨.p (.sl es [[p0],[p1],[p2],[p3]] true),[]⟩ (fun _=>false):=by
 subst hes1
 exact lop_buildSlice (ps:=[(0,[p0]),(1,[p1]),(2,[p2]),(3,[p3])]) ho (.cons ⟨rfl,rfl,_,h0,rfl⟩ (.cons ⟨rfl,rfl,_,h1,rfl⟩ (.cons ⟨rfl,rfl,_,h2,rfl⟩ (.cons ⟨rfl,rfl,_,h3,rfl⟩ (.nil))))) rfl (by decide) (by decide) hd
theorem lop_bs5 {z:List Value} {x0 x1 x2 x3 x4:Operand} {p0 p1 p2 p3 p4:PVal} (ho:o.op=.buildSlice T 5 #[(0,x0),(1,x1),(2,x2),(3,x3),(4,x4)]) (hT:TI C.P T (.slice e) sz by_) (he:TI C.P e ke es be) (hz:TZ C.P e z) (hes1:es=1) (h0:σ.look x0=.p p0) (h1:σ.look x1=.p p1) (h2:σ.look x2=.p p2) (h3:σ.look x3=.p p3) (h4:σ.look x4=.p p4) (hd:dOk C o.dst=true):LOp C o σ ⟨.p (.sl es [[p0],[p1],[p2],[p3],[p4]] true),[]⟩ (fun _=>false):=by
 subst hes1
 exact lop_buildSlice (ps:=[(0,[p0]),(1,[p1]),(2,[p2]),(3,[p3]),(4,[p4])]) ho (.cons ⟨rfl,rfl,_,h0,rfl⟩ (.cons ⟨rfl,rfl,_,h1,rfl⟩ (.cons ⟨rfl,rfl,_,h2,rfl⟩ (.cons ⟨rfl,rfl,_,h3,rfl⟩ (.cons ⟨rfl,rfl,_,h4,rfl⟩ (.nil)))))) rfl (by decide) (by decide) hd
end ops
theorem lk_m1 {σ:St} {x:Operand} {k:IntKind} {ex:Bool} {n0:Int} (h:σ.look x=.p (.sl 1 [[PVal.v (.int k n0)]] ex)):σ.look x=.p (.sl 1 (([n0]:List Int).map fun n=>[PVal.v (.int k n)]) ex):=h
theorem lk_m2 {σ:St} {x:Operand} {k:IntKind} {ex:Bool} {n0 n1:Int} (h:σ.look x=.p (.sl 1 [[PVal.v (.int k n0)],[PVal.v (.int k n1)]] ex)):σ.look x=.p (.sl 1 (([n0,n1]:List Int).map fun n=>[PVal.v (.int k n)]) ex):=h
theorem lk_m3 {σ:St} {x:Operand} {k:IntKind} {ex:Bool} {n0 n1 n2:Int} (h:σ.look x=.p (.sl 1 [[PVal.v (.int k n0)],[PVal.v (.int k n1)],[PVal.v (.int k n2)]] ex)):σ.look x=.p (.sl 1 (([n0,n1,n2]:List Int).map fun n=>[PVal.v (.int k n)]) ex):=h
end Go.Aw
/- THE ABSTRACT WALK, part 15: own slices whose rows are mapped; the steps of a walk, each under one name. Nothing here speaks of a program. -/
namespace Go.Aw
open Go Go.RowKit
set_option linter.unusedVariables false
set_option linter.unusedSimpArgs false
variable {C:Ctx} {o:Oper} {σ:St}
section ops
theorem map_get {α:Type} [Inhabited α] {f:α→List PVal} {l:List α} {i:Nat} (h:i < l.length):(l.map f)[i]?=some (f (l.getD i default)):=by
 simp [List.getD_eq_getElem?_getD,h]
theorem lop_ms_b {T e:TypeId} {x y:Operand} {sz by_:Nat} {ke:TK} {es be:Nat} {d n:Nat} {mo0:Option MO} {kx ky:IntKind} {m c:Int}
  (ho:o.op=.makeSlice T x y) (hT:TI C.P T (.slice e) sz by_) (he:TI C.P e ke es be) (hz:TZ C.P e [.bool false]) (hdst:o.dst=some d) (hx:σ.look x=.p (.v (.int kx m))) (hy:σ.look y=.p (.v (.int ky c))) (hmc:m=c) (hes:es=1) (h0:0≤c) (h63:c≤9223372036854775807) (hby:(be:Int) * c≤281474976710656) (hm:σ.mem d=(n,mo0)) (hd:dOk C o.dst=true) :
  LOp C o σ ⟨.o (.osl d n es 0 c.toNat),[(d,(n+1,some (.buf e es ((List.replicate c.toNat false).map fun b=>[PVal.b b]))))]⟩ (fun q=>q == d):=by
 have:=lop_makeSlice (o:=o) ho hdst hx hy hmc hes h0 h63 hby rfl hm hd
 rwa [List.map_replicate]
theorem lop_ms_i {T e:TypeId} {x y:Operand} {sz by_:Nat} {ke:TK} {es be:Nat} {k:IntKind} {d n:Nat} {mo0:Option MO} {kx ky:IntKind} {m c:Int}
  (ho:o.op=.makeSlice T x y) (hT:TI C.P T (.slice e) sz by_) (he:TI C.P e ke es be) (hz:TZ C.P e [.int k 0]) (hdst:o.dst=some d) (hx:σ.look x=.p (.v (.int kx m))) (hy:σ.look y=.p (.v (.int ky c))) (hmc:m=c) (hes:es=1) (h0:0≤c) (h63:c≤9223372036854775807) (hby:(be:Int) * c≤281474976710656) (hm:σ.mem d=(n,mo0)) (hd:dOk C o.dst=true) :
  LOp C o σ ⟨.o (.osl d n es 0 c.toNat),[(d,(n+1,some (.buf e es ((List.replicate c.toNat (0:Int)).map fun b=>[PVal.k k b]))))]⟩ (fun q=>q == d):=by
 have:=lop_makeSlice (o:=o) ho hdst hx hy hmc hes h0 h63 hby rfl hm hd
 rwa [List.map_replicate]
theorem lop_ld_b {α:Type} {f:α→List PVal} {l:List α} {T:TypeId} {x:Operand} {k:TK} {sz by_:Nat} {ob g n ty i es:Nat} {p:PVal} (ho:o.op=.load T x) (hT:TI C.P T k sz by_) (hx:σ.look x=.o (.ptr ob g (i * 1))) (hm:σ.mem ob=(n,some (.buf ty es (l.map f)))) (hI:Inhabited α) (hes:es=1) (hn:n=g+1)
  (hk:k.agg=false) (hs:sz=1) (hi:i < l.length) (hp:f (l.getD i default)=[p]) (hd:dOk C o.dst=true):LOp C o σ ⟨.p p,[]⟩ (fun y=>y == ob):=by
 subst hes;exact lop_load_buf (o:=o) ho hx hm hn hk hs (by rw [map_get hi,hp]) hd
theorem lop_st_b {α:Type} {f:α→List PVal} {l:List α} {v:α} {T:TypeId} {x y:Operand} {k:TK} {sz by_:Nat} {ob g n ty i es:Nat} {p:PVal} (ho:o.op=.store T x y) (hT:TI C.P T k sz by_) (hdst:o.dst=none) (hx:σ.look x=.o (.ptr ob g (i * 1))) (hy:σ.look y=.p p) (hs:sz=1)
  (hm:σ.mem ob=(n,some (.buf ty es (l.map f)))) (he:es=1) (hn:n=g+1) (hp:[p]=f v) (hi:i < l.length):LOp C o σ ⟨.un,[(ob,(n,some (.buf ty es ((l.set i v).map f))))]⟩ (fun z=>z == ob):=by
 have:=lop_store_buf (C:=C) (o:=o) ho hdst hx hy hs hm he hn (by simpa using hi)
 rwa [hp,← List.map_set] at this
theorem lop_ix_b {α:Type} {f:α→List PVal} {l:List α} {T e:TypeId} {x ix:Operand} {sz by_:Nat} {ke:TK} {sze be:Nat} {ob g n len ty:Nat} {k:IntKind} {i:Int}
  (ho:o.op=.indexAddr T x ix) (hT:TI C.P T (.slice e) sz by_) (he:TI C.P e ke sze be) (hx:σ.look x=.o (.osl ob g sze 0 len)) (hm:σ.mem ob=(n,some (.buf ty sze (l.map f)))) (hn:n=g+1) (hi:σ.look ix=.p (.v (.int k i))) (hl:len≤l.length) (h0:0≤i) (hb:i < len) (hd:dOk C o.dst=true) :
  LOp C o σ ⟨.o (.ptr ob g (i.toNat * sze)),[]⟩ (fun y=>y == ob):=lop_indexAddr_osl ho hx hm hn (by simpa using hl) hi h0 hb hd
end ops
def Ent1 (a b:AV):Prop:=∀ μ X v,a.holds μ X v→b.holds μ X v
theorem Ent1.refl {a:AV}:Ent1 a a:=fun _ _ _ h=>h
abbrev nilA:AV:=.p (.v (.slice none 0 0))
theorem Ent1.nil {es:Nat} {ex:Bool}:Ent1 nilA (.p (.sl es [] ex)):=by
 rintro μ X v ⟨rfl,_⟩
 exact ⟨none,0,rfl,Nat.le_refl _,by simp [maxLen],fun _=>rfl,rfl,rfl⟩
theorem Ent1.ex {es:Nat} {rows:List (List PVal)} {ex:Bool}:Ent1 (.p (.sl es rows ex)) (.p (.sl es rows false)):=by
 rintro μ X v ⟨base,cap,h1,h2,h3,h4,h5⟩
 exact ⟨base,cap,h1,h2,h3,by simp,h5⟩
theorem ent_holds {μ:Mu} {X:Wd} {as bs:List AV} {vs:List Value} (hE:All2 Ent1 as bs) (h:All2 (AV.holds μ X) as vs):All2 (AV.holds μ X) bs vs:=by
 refine ⟨hE.1.symm.trans h.1,fun i b v hb hv=>?_⟩
 have hi:i < as.length:=by rw [hE.1];exact (List.getElem?_eq_some_iff.1 hb).1
 have ha:as[i]?=some as[i]:=by simp [hi]
 exact hE.2 i _ b ha hb _ _ _ (h.2 i _ v ha hv)
theorem PCall.ent {P:Program} {f:FuncId} {as bs:List AV} {r:AV} (h:PCall P f bs r) (hE:All2 Ent1 as bs):PCall P f as r:=fun w S vs hS ha=>h w S vs hS (ent_holds hE ha)
theorem OCAt.ent {P:Program} {f:FuncId} {as bs:List AV} {lent upds:List (Nat × (Nat × Option MO))} {fresh:List (Nat × Nat)} {r:AV} (h:OCAt P f bs lent fresh r upds) (hE:All2 Ent1 as bs):OCAt P f as lent fresh r upds:=
 fun w G mem vs h1 h2 h3 ha=>h w G mem vs h1 h2 h3 (ent_holds hE ha)
theorem memb_mem:∀ {W:List Nat} {t:Nat},memb W t=true→t∈W
 | [],t,h=>by simp [memb] at h
 | k::W,t,h=>by
  simp only [memb,Bool.or_eq_true] at h
  rcases h with h|h
  ·simp [Nat.eq_of_beq_eq_true h]
  ·simp [memb_mem h]
theorem memb_sub {W W':List Nat} (h:W'.all (memb W)=true):∀ t,memb W' t=true→memb W t=true:=fun t ht=>List.all_eq_true.1 h t (memb_mem ht)
/-! ### Ghost steps at a round's end -/
theorem Says.refl {C:Ctx} {σ:St}:Says C σ σ:=fun _ _ h=>h
theorem Says.trans {C:Ctx} {σ τ υ:St} (h:Says C σ τ) (k:Says C τ υ):Says C σ υ:=fun a w hr=>k a w (h a w hr)
theorem aws_loopS {ι:Type} {C:Ctx} {Q:Exit→St→Prop} {σ:St} {c:Code} {k:List Code} {id:Nat} (W M:List Nat) (e:ι→List (Nat × AV)) (m:ι→List (Nat × (Nat × Option MO))) (P:ι→Prop) (μ:ι→Nat) (i₀:ι)
  (h₀:P i₀) (he:Knows σ.env (e i₀)) (hm:Knows σ.mem (m i₀))
  (round:∀ i β γ,P i→AWs C [c] (fun x s'=>match x with | .normal=>∃ j τ,μ j < μ i∧P j∧Says C s' τ∧Fr' σ W (e j) M (m j) τ|x=>blk id (AWs C k Q) Q x s') (σ.fr W β (e i) M γ (m i))):AWs C (.block id (.loop c)::k) Q σ:=
 aws_loop (fun i s=>∃ τ,Says C s τ∧P i∧Fr' σ W (e i) M (m i) τ) μ i₀ ⟨σ,.refl,h₀,.mk .refl he hm⟩ fun i s ⟨τ,hs,hP,β,γ,ht⟩=>by
  subst ht
  refine aws_mono (Q:=fun x s'=>match x with | .normal=>∃ j τ,μ j < μ i∧P j∧Says C s' τ∧Fr' σ W (e j) M (m j) τ|x=>blk id (AWs C k Q) Q x s') (fun x s' hq=>?_) (aws_says hs (round i β γ hP))
  cases x with
  | normal=>obtain ⟨j,τ,h1,h2,h3,h4⟩:=hq;exact ⟨j,h1,τ,h3,h2,h4⟩
  | _=>exact hq
theorem lop_ap_n {α:Type} {f:α→List PVal} {m:List α} {T e:TypeId} {x y:Operand} {sz by_:Nat} {ke:TK} {es be:Nat} {z:List Value} {ey:Bool} {d n:Nat} {mo0:Option MO} (ho:o.op=.call ⟨.builtin .append,#[x,y],#[T,T]⟩) (hT:TI C.P T (.slice e) sz by_) (he:TI C.P e ke es be) (hz:TZ C.P e z) (hdst:o.dst=some d) (hx:σ.look x=.p (.v (.slice none 0 0)))
  (hy:σ.look y=.p (.sl es (m.map f) ey)) (hm:σ.mem d=(n,mo0)) (hes:(0:Nat) < es) (hzl:z.length=es) (h63:m.length≤maxLen) (hby:m.length * be≤140737488355328) (hd:dOk C o.dst=true) :
  LOp C o σ ⟨.o (.osl d n es 0 m.length),[(d,(n+1,some (.buf e es (m.map f))))]⟩ (fun q=>q == d):=by
 have:=lop_append_nil (o:=o) ho hdst hx (src_sl hy) hm hes hzl (by simpa using h63) (by simpa using hby) hd
 simpa using this
theorem hqs:(∀ (p:Prop) [Decidable p],(decide p=true)=p)∧(∀ (p:Prop) [Decidable p],(decide p=false)=¬ p)∧(∀ b:Bool,((!b)=true)=(b=false))∧(∀ b:Bool,((!b)=false)=(b=true))∧
  (∀ a b:Bool,((a&&b)=true)=(a=true∧b=true))∧(∀ a b:Bool,((a||b)=true)=(a=true∨b=true))∧(∀ a b:Bool,((a&&b)=false)=(a=false∨b=false))∧(∀ a b:Bool,((a||b)=false)=(a=false∧b=false))∧
  (∀ {α:Type} (a b:α),(a≠b)=¬ a=b)∧(∀ (p:Prop) [Decidable p],(¬ ¬ p)=p)∧((false=true)=False)∧((true=false)=False)∧((¬ True)=False)∧((¬ False)=True):=by
 refine ⟨fun p _=>by simp,fun p _=>by simp,fun b=>by simp,fun b=>by simp,fun a b=>by simp,fun a b=>by simp,fun a b=>by cases a<;>simp,fun a b=>by simp,fun a b=>rfl,fun p _=>by simp [Decidable.not_not],by simp,by simp,by simp,by simp⟩
theorem ob_none {Q:Nat × (Nat × Option MO)→Prop}:∀ p∈([]:List (Nat × (Nat × Option MO))),Q p:=by simp
theorem ob_one {W:List (Nat × Nat)} {i x:Nat} {m:Nat × Option MO} (h:(i,x)∈W):∀ p∈[(x,m)],(i,p.1)∈W:=fun p hp=>by simp at hp;subst hp;exact h
/-! ### Which operation it is -/
section kinds
variable {C:Ctx} {o:Oper} {σ:St} {e:Eff} {ro:Nat→Bool}
theorem gMove {x:Operand} (ho:o.op=.move x) (h:LOp C o σ e ro):LOp C o σ e ro:=h
theorem gAssign {x:Operand} (ho:o.op=.assign x) (h:LOp C o σ e ro):LOp C o σ e ro:=h
theorem gLoad {T:TypeId} {x:Operand} (ho:o.op=.load T x) (h:LOp C o σ e ro):LOp C o σ e ro:=h
theorem gPick {x y z:Operand} (ho:o.op=.pick x y z) (h:LOp C o σ e ro):LOp C o σ e ro:=h
theorem gCallF {f:FuncId} {as:Array Operand} {ts:Array TypeId} (ho:o.op=.call ⟨.value (.func f),as,ts⟩) (h:LOp C o σ e ro):LOp C o σ e ro:=h
theorem gCallB {b:Builtin} {as:Array Operand} {ts:Array TypeId} (ho:o.op=.call ⟨.builtin b,as,ts⟩) (h:LOp C o σ e ro):LOp C o σ e ro:=h
theorem gIndex {T:TypeId} {x y:Operand} (ho:o.op=.indexAddr T x y) (h:LOp C o σ e ro):LOp C o σ e ro:=h
theorem gField {T:TypeId} {x:Operand} {n:Nat} (ho:o.op=.fieldAddr T x n) (h:LOp C o σ e ro):LOp C o σ e ro:=h
theorem gBin {b:BinOp} {T T':TypeId} {x y:Operand} (ho:o.op=.binOp b T x y T') (h:LOp C o σ e ro):LOp C o σ e ro:=h
theorem gExtract {x:Operand} {n:Nat} (ho:o.op=.extract x n) (h:LOp C o σ e ro):LOp C o σ e ro:=h
theorem gSlice {T:TypeId} {x:Operand} {l h m:Option Operand} (ho:o.op=.slice T x l h m) (h:LOp C o σ e ro):LOp C o σ e ro:=h
end kinds
/-! ### One step under one name -/
theorem lopA {C:Ctx} {o:Oper} {σ:St} {e:Eff} {ro:Nat→Bool} (h:LOp C o σ e ro:=by
  first
     | (apply gMove;(focus rfl);first|exact lop_move_o rfl rfl rfl|exact lop_move_a rfl rfl rfl|exact lop_move_t rfl rfl rfl|exact lop_move_u rfl rfl)
     | (apply gAssign;(focus rfl);first|exact lop_assign_o rfl rfl rfl|exact lop_assign_a rfl rfl rfl)
     | (apply gLoad;(focus rfl);first|exact lop_load_one rfl rfl rfl rfl rfl rfl rfl rfl|exact lop_load_all rfl rfl rfl rfl rfl rfl rfl|exact lop_load_all rfl rfl rfl rfl rfl (by first|(rw [List.length_map];assumption)|(simp [*];done)) rfl|(apply lop_ld_at1;(focus rfl);(focus exact inferInstance);(focus rfl);(focus rfl);(focus rfl);(focus rfl);(focus rfl))|(apply lop_ld_b;(focus rfl);(focus exact inferInstance);(focus rfl);(focus rfl);(focus rfl);(focus rfl);(focus rfl);(focus rfl);(focus omega);(focus rfl);(focus rfl);(focus exact inferInstance))|(apply lop_ld_arr;(focus rfl);(focus exact inferInstance);(focus rfl);(focus rfl);(focus rfl);(focus rfl);(focus rfl);(focus omega);(focus rfl);(focus rfl);(focus exact inferInstance))|(apply lop_ld_bx;(focus rfl);(focus exact inferInstance);(focus rfl);(focus rfl);(focus rfl);(focus rfl);(focus rfl))|(apply lop_ld_bxa;(focus rfl);(focus exact inferInstance);(focus rfl);(focus rfl);(focus rfl);(focus rfl))|(apply lop_ld_fbx;(focus rfl);(focus exact inferInstance);(focus rfl);(focus rfl);(focus rfl);(focus rfl);(focus rfl);(focus rfl);(focus rfl)))
     | (apply gPick;(focus rfl);first|exact lop_pick_t' rfl rfl rfl rfl rfl|exact lop_pick_f' rfl rfl rfl rfl rfl|exact lop_pick_t' rfl rfl (by assumption) rfl rfl|exact lop_pick_f' rfl rfl (by assumption) rfl rfl)
     | (apply gCallF;(focus rfl);first|(apply lop_call1;(focus rfl);(focus exact inferInstance);(focus first|exact lk_m1 rfl|exact lk_m2 rfl|exact lk_m3 rfl|exact lk_o rfl|exact lk_a2 rfl|exact lk_a3 rfl|exact lk_a4 rfl|exact lk_a1 rfl|exact lk_a5 rfl|exact lk_a6 rfl|exact lk_a7 rfl|exact lk_a8 rfl|exact lk_a rfl);(focus exact inferInstance);(focus exact inferInstance);(focus first|exact True.intro|assumption|omega|(repeat' (first|assumption|refine And.intro ?_ ?_|omega|decide)));(focus rfl))|(apply lop_call2;(focus rfl);(focus exact inferInstance);(focus first|exact lk_m1 rfl|exact lk_m2 rfl|exact lk_m3 rfl|exact lk_o rfl|exact lk_a2 rfl|exact lk_a3 rfl|exact lk_a4 rfl|exact lk_a1 rfl|exact lk_a5 rfl|exact lk_a6 rfl|exact lk_a7 rfl|exact lk_a8 rfl|exact lk_a rfl);(focus first|exact lk_m1 rfl|exact lk_m2 rfl|exact lk_m3 rfl|exact lk_o rfl|exact lk_a2 rfl|exact lk_a3 rfl|exact lk_a4 rfl|exact lk_a1 rfl|exact lk_a5 rfl|exact lk_a6 rfl|exact lk_a7 rfl|exact lk_a8 rfl|exact lk_a rfl);(focus exact inferInstance);(focus exact inferInstance);(focus first|exact True.intro|assumption|omega|(repeat' (first|assumption|refine And.intro ?_ ?_|omega|decide)));(focus rfl))|(apply lop_call3;(focus rfl);(focus exact inferInstance);(focus first|exact lk_m1 rfl|exact lk_m2 rfl|exact lk_m3 rfl|exact lk_o rfl|exact lk_a2 rfl|exact lk_a3 rfl|exact lk_a4 rfl|exact lk_a1 rfl|exact lk_a5 rfl|exact lk_a6 rfl|exact lk_a7 rfl|exact lk_a8 rfl|exact lk_a rfl);(focus first|exact lk_m1 rfl|exact lk_m2 rfl|exact lk_m3 rfl|exact lk_o rfl|exact lk_a2 rfl|exact lk_a3 rfl|exact lk_a4 rfl|exact lk_a1 rfl|exact lk_a5 rfl|exact lk_a6 rfl|exact lk_a7 rfl|exact lk_a8 rfl|exact lk_a rfl);(focus first|exact lk_m1 rfl|exact lk_m2 rfl|exact lk_m3 rfl|exact lk_o rfl|exact lk_a2 rfl|exact lk_a3 rfl|exact lk_a4 rfl|exact lk_a1 rfl|exact lk_a5 rfl|exact lk_a6 rfl|exact lk_a7 rfl|exact lk_a8 rfl|exact lk_a rfl);(focus exact inferInstance);(focus exact inferInstance);(focus first|exact True.intro|assumption|omega|(repeat' (first|assumption|refine And.intro ?_ ?_|omega|decide)));(focus rfl))|(apply lop_call0;(focus rfl);(focus exact inferInstance);(focus exact inferInstance);(focus exact inferInstance);(focus first|exact True.intro|assumption|omega|(repeat' (first|assumption|refine And.intro ?_ ?_|omega|decide)));(focus rfl))|(apply lop_call4;(focus rfl);(focus exact inferInstance);(focus first|exact lk_m1 rfl|exact lk_m2 rfl|exact lk_m3 rfl|exact lk_o rfl|exact lk_a2 rfl|exact lk_a3 rfl|exact lk_a4 rfl|exact lk_a1 rfl|exact lk_a5 rfl|exact lk_a6 rfl|exact lk_a7 rfl|exact lk_a8 rfl|exact lk_a rfl);(focus first|exact lk_m1 rfl|exact lk_m2 rfl|exact lk_m3 rfl|exact lk_o rfl|exact lk_a2 rfl|exact lk_a3 rfl|exact lk_a4 rfl|exact lk_a1 rfl|exact lk_a5 rfl|exact lk_a6 rfl|exact lk_a7 rfl|exact lk_a8 rfl|exact lk_a rfl);(focus first|exact lk_m1 rfl|exact lk_m2 rfl|exact lk_m3 rfl|exact lk_o rfl|exact lk_a2 rfl|exact lk_a3 rfl|exact lk_a4 rfl|exact lk_a1 rfl|exact lk_a5 rfl|exact lk_a6 rfl|exact lk_a7 rfl|exact lk_a8 rfl|exact lk_a rfl);(focus first|exact lk_m1 rfl|exact lk_m2 rfl|exact lk_m3 rfl|exact lk_o rfl|exact lk_a2 rfl|exact lk_a3 rfl|exact lk_a4 rfl|exact lk_a1 rfl|exact lk_a5 rfl|exact lk_a6 rfl|exact lk_a7 rfl|exact lk_a8 rfl|exact lk_a rfl);(focus exact inferInstance);(focus exact inferInstance);(focus first|exact True.intro|assumption|omega|(repeat' (first|assumption|refine And.intro ?_ ?_|omega|decide)));(focus rfl))|(apply lop_oc1;(focus rfl);(focus exact inferInstance);(focus first|exact lk_m1 rfl|exact lk_m2 rfl|exact lk_m3 rfl|exact lk_o rfl|exact lk_a2 rfl|exact lk_a3 rfl|exact lk_a4 rfl|exact lk_a1 rfl|exact lk_a5 rfl|exact lk_a6 rfl|exact lk_a7 rfl|exact lk_a8 rfl|exact lk_a rfl);(focus exact inferInstance);(focus rfl);(focus exact inferInstance);(focus first|exact True.intro|assumption|omega|(repeat' (first|assumption|refine And.intro ?_ ?_|omega|decide)));(focus rfl);(focus rfl))|(apply lop_oc2;(focus rfl);(focus exact inferInstance);(focus first|exact lk_m1 rfl|exact lk_m2 rfl|exact lk_m3 rfl|exact lk_o rfl|exact lk_a2 rfl|exact lk_a3 rfl|exact lk_a4 rfl|exact lk_a1 rfl|exact lk_a5 rfl|exact lk_a6 rfl|exact lk_a7 rfl|exact lk_a8 rfl|exact lk_a rfl);(focus first|exact lk_m1 rfl|exact lk_m2 rfl|exact lk_m3 rfl|exact lk_o rfl|exact lk_a2 rfl|exact lk_a3 rfl|exact lk_a4 rfl|exact lk_a1 rfl|exact lk_a5 rfl|exact lk_a6 rfl|exact lk_a7 rfl|exact lk_a8 rfl|exact lk_a rfl);(focus exact inferInstance);(focus rfl);(focus exact inferInstance);(focus first|exact True.intro|assumption|omega|(repeat' (first|assumption|refine And.intro ?_ ?_|omega|decide)));(focus rfl);(focus rfl))|(apply lop_oc3;(focus rfl);(focus exact inferInstance);(focus first|exact lk_m1 rfl|exact lk_m2 rfl|exact lk_m3 rfl|exact lk_o rfl|exact lk_a2 rfl|exact lk_a3 rfl|exact lk_a4 rfl|exact lk_a1 rfl|exact lk_a5 rfl|exact lk_a6 rfl|exact lk_a7 rfl|exact lk_a8 rfl|exact lk_a rfl);(focus first|exact lk_m1 rfl|exact lk_m2 rfl|exact lk_m3 rfl|exact lk_o rfl|exact lk_a2 rfl|exact lk_a3 rfl|exact lk_a4 rfl|exact lk_a1 rfl|exact lk_a5 rfl|exact lk_a6 rfl|exact lk_a7 rfl|exact lk_a8 rfl|exact lk_a rfl);(focus first|exact lk_m1 rfl|exact lk_m2 rfl|exact lk_m3 rfl|exact lk_o rfl|exact lk_a2 rfl|exact lk_a3 rfl|exact lk_a4 rfl|exact lk_a1 rfl|exact lk_a5 rfl|exact lk_a6 rfl|exact lk_a7 rfl|exact lk_a8 rfl|exact lk_a rfl);(focus exact inferInstance);(focus rfl);(focus exact inferInstance);(focus first|exact True.intro|assumption|omega|(repeat' (first|assumption|refine And.intro ?_ ?_|omega|decide)));(focus rfl);(focus rfl))|(apply lop_oc4;(focus rfl);(focus exact inferInstance);(focus first|exact lk_m1 rfl|exact lk_m2 rfl|exact lk_m3 rfl|exact lk_o rfl|exact lk_a2 rfl|exact lk_a3 rfl|exact lk_a4 rfl|exact lk_a1 rfl|exact lk_a5 rfl|exact lk_a6 rfl|exact lk_a7 rfl|exact lk_a8 rfl|exact lk_a rfl);(focus first|exact lk_m1 rfl|exact lk_m2 rfl|exact lk_m3 rfl|exact lk_o rfl|exact lk_a2 rfl|exact lk_a3 rfl|exact lk_a4 rfl|exact lk_a1 rfl|exact lk_a5 rfl|exact lk_a6 rfl|exact lk_a7 rfl|exact lk_a8 rfl|exact lk_a rfl);(focus first|exact lk_m1 rfl|exact lk_m2 rfl|exact lk_m3 rfl|exact lk_o rfl|exact lk_a2 rfl|exact lk_a3 rfl|exact lk_a4 rfl|exact lk_a1 rfl|exact lk_a5 rfl|exact lk_a6 rfl|exact lk_a7 rfl|exact lk_a8 rfl|exact lk_a rfl);(focus first|exact lk_m1 rfl|exact lk_m2 rfl|exact lk_m3 rfl|exact lk_o rfl|exact lk_a2 rfl|exact lk_a3 rfl|exact lk_a4 rfl|exact lk_a1 rfl|exact lk_a5 rfl|exact lk_a6 rfl|exact lk_a7 rfl|exact lk_a8 rfl|exact lk_a rfl);(focus exact inferInstance);(focus rfl);(focus exact inferInstance);(focus first|exact True.intro|assumption|omega|(repeat' (first|assumption|refine And.intro ?_ ?_|omega|decide)));(focus rfl);(focus rfl))|(apply lop_of0;(focus rfl);(focus exact inferInstance);(focus rfl);(focus rfl);(focus exact inferInstance);(focus first|exact True.intro|assumption|omega|(repeat' (first|assumption|refine And.intro ?_ ?_|omega|decide)));(focus rfl);(focus rfl))|(apply lop_of1;(focus rfl);(focus exact inferInstance);(focus rfl);(focus first|exact lk_m1 rfl|exact lk_m2 rfl|exact lk_m3 rfl|exact lk_o rfl|exact lk_a2 rfl|exact lk_a3 rfl|exact lk_a4 rfl|exact lk_a1 rfl|exact lk_a5 rfl|exact lk_a6 rfl|exact lk_a7 rfl|exact lk_a8 rfl|exact lk_a rfl);(focus rfl);(focus exact inferInstance);(focus first|exact True.intro|assumption|omega|(repeat' (first|assumption|refine And.intro ?_ ?_|omega|decide)));(focus rfl);(focus rfl))|(apply lop_of2;(focus rfl);(focus exact inferInstance);(focus rfl);(focus first|exact lk_m1 rfl|exact lk_m2 rfl|exact lk_m3 rfl|exact lk_o rfl|exact lk_a2 rfl|exact lk_a3 rfl|exact lk_a4 rfl|exact lk_a1 rfl|exact lk_a5 rfl|exact lk_a6 rfl|exact lk_a7 rfl|exact lk_a8 rfl|exact lk_a rfl);(focus first|exact lk_m1 rfl|exact lk_m2 rfl|exact lk_m3 rfl|exact lk_o rfl|exact lk_a2 rfl|exact lk_a3 rfl|exact lk_a4 rfl|exact lk_a1 rfl|exact lk_a5 rfl|exact lk_a6 rfl|exact lk_a7 rfl|exact lk_a8 rfl|exact lk_a rfl);(focus rfl);(focus exact inferInstance);(focus first|exact True.intro|assumption|omega|(repeat' (first|assumption|refine And.intro ?_ ?_|omega|decide)));(focus rfl);(focus rfl))|(apply lop_of3;(focus rfl);(focus exact inferInstance);(focus rfl);(focus first|exact lk_m1 rfl|exact lk_m2 rfl|exact lk_m3 rfl|exact lk_o rfl|exact lk_a2 rfl|exact lk_a3 rfl|exact lk_a4 rfl|exact lk_a1 rfl|exact lk_a5 rfl|exact lk_a6 rfl|exact lk_a7 rfl|exact lk_a8 rfl|exact lk_a rfl);(focus first|exact lk_m1 rfl|exact lk_m2 rfl|exact lk_m3 rfl|exact lk_o rfl|exact lk_a2 rfl|exact lk_a3 rfl|exact lk_a4 rfl|exact lk_a1 rfl|exact lk_a5 rfl|exact lk_a6 rfl|exact lk_a7 rfl|exact lk_a8 rfl|exact lk_a rfl);(focus first|exact lk_m1 rfl|exact lk_m2 rfl|exact lk_m3 rfl|exact lk_o rfl|exact lk_a2 rfl|exact lk_a3 rfl|exact lk_a4 rfl|exact lk_a1 rfl|exact lk_a5 rfl|exact lk_a6 rfl|exact lk_a7 rfl|exact lk_a8 rfl|exact lk_a rfl);(focus rfl);(focus exact inferInstance);(focus first|exact True.intro|assumption|omega|(repeat' (first|assumption|refine And.intro ?_ ?_|omega|decide)));(focus rfl);(focus rfl)))
     | (apply gCallB;(focus rfl);first|exact lop_len_map rfl rfl rfl|exact lop_len_sl rfl rfl rfl|exact lop_len_nil rfl rfl rfl|exact lop_len_osl rfl rfl rfl|exact lop_len_str rfl rfl rfl|exact lop_min rfl rfl rfl rfl|exact lop_max rfl rfl rfl rfl|(apply lop_ap_o1;(focus rfl);(focus exact inferInstance);(focus exact inferInstance);(focus exact inferInstance);(focus rfl);(focus rfl);(focus rfl);(focus rfl);(focus rfl);(focus rfl);(focus rfl);(focus first|(simp only [maxLen,List.length_append,List.length_cons,List.length_nil,List.length_take,List.length_drop,List.length_map];omega)|omega);(focus first|(simp only [maxLen,List.length_append,List.length_cons,List.length_nil,List.length_take,List.length_drop,List.length_map];omega)|omega);(focus rfl))|(apply lop_ap_on;(focus rfl);(focus exact inferInstance);(focus exact inferInstance);(focus exact inferInstance);(focus rfl);(focus rfl);(focus rfl);(focus rfl);(focus rfl);(focus rfl);(focus first|(simp only [maxLen,List.length_append,List.length_cons,List.length_nil,List.length_take,List.length_drop,List.length_map];omega)|omega);(focus first|(simp only [maxLen,List.length_append,List.length_cons,List.length_nil,List.length_take,List.length_drop,List.length_map];omega)|omega);(focus rfl))|(apply lop_ap_ex;(focus rfl);(focus exact inferInstance);(focus exact inferInstance);(focus exact inferInstance);(focus rfl);(focus rfl);(focus rfl);(focus first|(simp only [maxLen,List.length_append,List.length_cons,List.length_nil,List.length_take,List.length_drop,List.length_map];omega)|omega);(focus first|(simp only [maxLen,List.length_append,List.length_cons,List.length_nil,List.length_take,List.length_drop,List.length_map];omega)|omega);(focus rfl))|(apply lop_ap_e0;(focus rfl);(focus exact inferInstance);(focus exact inferInstance);(focus exact inferInstance);(focus rfl);(focus rfl);(focus rfl);(focus first|(simp only [maxLen,List.length_append,List.length_cons,List.length_nil,List.length_take,List.length_drop,List.length_map];omega)|omega);(focus first|(simp only [maxLen,List.length_append,List.length_cons,List.length_nil,List.length_take,List.length_drop,List.length_map];omega)|omega);(focus rfl))|(apply lop_ap_n;(focus rfl);(focus exact inferInstance);(focus exact inferInstance);(focus exact inferInstance);(focus rfl);(focus rfl);(focus rfl);(focus rfl);(focus decide);(focus rfl);(focus first|(simp only [maxLen,List.length_append,List.length_cons,List.length_nil,List.length_take,List.length_drop,List.length_map];omega)|omega);(focus first|(simp only [maxLen,List.length_append,List.length_cons,List.length_nil,List.length_take,List.length_drop,List.length_map];omega)|omega);(focus rfl)))
     | (apply gIndex;(focus rfl);first|(apply lop_ix_sl;(focus rfl);(focus exact inferInstance);(focus exact inferInstance);(focus rfl);(focus rfl);(focus omega);(focus first|exact rows_get (by omega) (by first|omega|(simp;omega))|rfl);(focus rfl))|(apply lop_ix_b;(focus rfl);(focus exact inferInstance);(focus exact inferInstance);(focus rfl);(focus rfl);(focus rfl);(focus rfl);(focus omega);(focus omega);(focus omega);(focus rfl))|(apply lop_ix_arr;(focus rfl);(focus exact inferInstance);(focus exact inferInstance);(focus rfl);(focus rfl);(focus omega);(focus omega);(focus rfl)))
     | (apply gField;(focus rfl);first|exact lop_fieldAddr rfl rfl (by decide) rfl rfl)
     | (apply gBin;(focus rfl);first|exact lop_lss rfl rfl rfl rfl|exact lop_eql rfl rfl rfl rfl|exact lop_neq rfl rfl rfl rfl|exact lop_leq rfl rfl rfl rfl|exact lop_gtr rfl rfl rfl rfl|exact lop_geq rfl rfl rfl rfl|exact lop_add' rfl rfl rfl rfl (by first|exact IntWalk.i64_in _ (by omega)|exact u64_in (by omega)|exact u32_in (by omega)|exact u8_in (by omega)|exact u16_in (by omega))|exact lop_sub' rfl rfl rfl rfl (by first|exact IntWalk.i64_in _ (by omega)|exact u64_in (by omega)|exact u32_in (by omega)|exact u8_in (by omega)|exact u16_in (by omega))|exact lop_mul' rfl rfl rfl rfl (by first|exact IntWalk.i64_in _ (by omega)|exact u64_in (by omega)|exact u32_in (by omega)|exact u8_in (by omega)|exact u16_in (by omega))|exact lop_eqlb rfl rfl rfl rfl|exact lop_neqb rfl rfl rfl rfl|exact lop_ptr_eqnil rfl rfl rfl rfl|exact lop_nil_eqnil rfl rfl rfl rfl|(apply lop_eqla;(focus rfl);(focus exact inferInstance);(focus first|exact lk_m1 rfl|exact lk_m2 rfl|exact lk_m3 rfl|exact lk_o rfl|exact lk_a2 rfl|exact lk_a3 rfl|exact lk_a4 rfl|exact lk_a1 rfl|exact lk_a5 rfl|exact lk_a6 rfl|exact lk_a7 rfl|exact lk_a8 rfl|exact lk_a rfl);(focus first|exact lk_m1 rfl|exact lk_m2 rfl|exact lk_m3 rfl|exact lk_o rfl|exact lk_a2 rfl|exact lk_a3 rfl|exact lk_a4 rfl|exact lk_a1 rfl|exact lk_a5 rfl|exact lk_a6 rfl|exact lk_a7 rfl|exact lk_a8 rfl|exact lk_a rfl);(focus repeat' (first|exact Plain.nil|apply Plain.cons|exact Plain.map|apply Plain.append));(focus repeat' (first|exact Plain.nil|apply Plain.cons|exact Plain.map|apply Plain.append));(focus repeat' (first|exact HasL.nil|apply HasL.cons rfl));(focus repeat' (first|exact HasL.nil|apply HasL.cons rfl));(focus exact ⟨_,_,_,inferInstance,rfl⟩);(focus rfl))|(apply lop_neqa;(focus rfl);(focus exact inferInstance);(focus first|exact lk_m1 rfl|exact lk_m2 rfl|exact lk_m3 rfl|exact lk_o rfl|exact lk_a2 rfl|exact lk_a3 rfl|exact lk_a4 rfl|exact lk_a1 rfl|exact lk_a5 rfl|exact lk_a6 rfl|exact lk_a7 rfl|exact lk_a8 rfl|exact lk_a rfl);(focus first|exact lk_m1 rfl|exact lk_m2 rfl|exact lk_m3 rfl|exact lk_o rfl|exact lk_a2 rfl|exact lk_a3 rfl|exact lk_a4 rfl|exact lk_a1 rfl|exact lk_a5 rfl|exact lk_a6 rfl|exact lk_a7 rfl|exact lk_a8 rfl|exact lk_a rfl);(focus repeat' (first|exact Plain.nil|apply Plain.cons|exact Plain.map|apply Plain.append));(focus repeat' (first|exact Plain.nil|apply Plain.cons|exact Plain.map|apply Plain.append));(focus repeat' (first|exact HasL.nil|apply HasL.cons rfl));(focus repeat' (first|exact HasL.nil|apply HasL.cons rfl));(focus exact ⟨_,_,_,inferInstance,rfl⟩);(focus rfl))|exact lop_rem' rfl rfl rfl rfl (by omega) (by omega)|exact lop_quo' rfl rfl rfl rfl (by omega) (by omega) (by first|exact IntWalk.i64_in _ (by omega)|exact u64_in (by omega)|exact u32_in (by omega)|exact u8_in (by omega)|exact u16_in (by omega))|(apply lop_sl_eqnil;(focus rfl);(focus exact inferInstance);(focus rfl);(focus rfl);(focus rfl)))
     | (apply gExtract;(focus rfl);first|exact lop_extract_o rfl rfl rfl rfl|exact lop_extract_a rfl rfl rfl rfl)
     | (apply gSlice;(focus rfl);first|(apply lop_sl_hm;(focus rfl);(focus exact inferInstance);(focus exact inferInstance);(focus rfl);(focus rfl);(focus rfl);(focus omega);(focus rfl);(focus omega);(focus rfl))|(apply lop_sl_l;(focus rfl);(focus exact inferInstance);(focus exact inferInstance);(focus rfl);(focus rfl);(focus omega);(focus omega);(focus rfl))|(apply lop_sl_h;(focus rfl);(focus exact inferInstance);(focus exact inferInstance);(focus rfl);(focus rfl);(focus omega);(focus omega);(focus rfl))|(apply lop_sl_lh;(focus rfl);(focus exact inferInstance);(focus exact inferInstance);(focus rfl);(focus rfl);(focus rfl);(focus omega);(focus omega);(focus omega);(focus rfl))|(apply lop_sl_lhm;(focus rfl);(focus exact inferInstance);(focus exact inferInstance);(focus rfl);(focus rfl);(focus rfl);(focus rfl);(focus omega);(focus omega);(focus omega);(focus omega);(focus rfl)))
     | exact lop_not rfl rfl rfl
     | exact lop_box_a rfl rfl rfl rfl rfl
     | exact lop_box_o rfl rfl rfl rfl rfl
     | exact lop_alloc rfl rfl rfl (by decide) rfl
     | (apply lop_build0;(focus rfl);(focus exact inferInstance);(focus exact inferInstance);(focus decide);(focus first|exact sn2 rfl|exact sn3 rfl|exact sn4 rfl|exact sn1 rfl|exact sn5 rfl|exact sn6 rfl|exact sn7 rfl|exact sn8 rfl|exact sn9 rfl|exact sn10 rfl|exact sn11 rfl|exact sn12 rfl|rfl);(focus rfl))
     | (apply lop_build1;(focus rfl);(focus exact inferInstance);(focus exact inferInstance);(focus first|exact lk_m1 rfl|exact lk_m2 rfl|exact lk_m3 rfl|exact lk_o rfl|exact lk_a2 rfl|exact lk_a3 rfl|exact lk_a4 rfl|exact lk_a1 rfl|exact lk_a5 rfl|exact lk_a6 rfl|exact lk_a7 rfl|exact lk_a8 rfl|exact lk_a rfl);(focus decide);(focus first|exact sn2 rfl|exact sn3 rfl|exact sn4 rfl|exact sn1 rfl|exact sn5 rfl|exact sn6 rfl|exact sn7 rfl|exact sn8 rfl|exact sn9 rfl|exact sn10 rfl|exact sn11 rfl|exact sn12 rfl|rfl);(focus rfl))
     | (apply lop_build2;(focus rfl);(focus exact inferInstance);(focus exact inferInstance);(focus first|exact lk_m1 rfl|exact lk_m2 rfl|exact lk_m3 rfl|exact lk_o rfl|exact lk_a2 rfl|exact lk_a3 rfl|exact lk_a4 rfl|exact lk_a1 rfl|exact lk_a5 rfl|exact lk_a6 rfl|exact lk_a7 rfl|exact lk_a8 rfl|exact lk_a rfl);(focus first|exact lk_m1 rfl|exact lk_m2 rfl|exact lk_m3 rfl|exact lk_o rfl|exact lk_a2 rfl|exact lk_a3 rfl|exact lk_a4 rfl|exact lk_a1 rfl|exact lk_a5 rfl|exact lk_a6 rfl|exact lk_a7 rfl|exact lk_a8 rfl|exact lk_a rfl);(focus decide);(focus first|exact sn2 rfl|exact sn3 rfl|exact sn4 rfl|exact sn1 rfl|exact sn5 rfl|exact sn6 rfl|exact sn7 rfl|exact sn8 rfl|exact sn9 rfl|exact sn10 rfl|exact sn11 rfl|exact sn12 rfl|rfl);(focus rfl))
     | (apply lop_build3;(focus rfl);(focus exact inferInstance);(focus exact inferInstance);(focus first|exact lk_m1 rfl|exact lk_m2 rfl|exact lk_m3 rfl|exact lk_o rfl|exact lk_a2 rfl|exact lk_a3 rfl|exact lk_a4 rfl|exact lk_a1 rfl|exact lk_a5 rfl|exact lk_a6 rfl|exact lk_a7 rfl|exact lk_a8 rfl|exact lk_a rfl);(focus first|exact lk_m1 rfl|exact lk_m2 rfl|exact lk_m3 rfl|exact lk_o rfl|exact lk_a2 rfl|exact lk_a3 rfl|exact lk_a4 rfl|exact lk_a1 rfl|exact lk_a5 rfl|exact lk_a6 rfl|exact lk_a7 rfl|exact lk_a8 rfl|exact lk_a rfl);(focus first|exact lk_m1 rfl|exact lk_m2 rfl|exact lk_m3 rfl|exact lk_o rfl|exact lk_a2 rfl|exact lk_a3 rfl|exact lk_a4 rfl|exact lk_a1 rfl|exact lk_a5 rfl|exact lk_a6 rfl|exact lk_a7 rfl|exact lk_a8 rfl|exact lk_a rfl);(focus decide);(focus first|exact sn2 rfl|exact sn3 rfl|exact sn4 rfl|exact sn1 rfl|exact sn5 rfl|exact sn6 rfl|exact sn7 rfl|exact sn8 rfl|exact sn9 rfl|exact sn10 rfl|exact sn11 rfl|exact sn12 rfl|rfl);(focus rfl))
     | (apply lop_build4;(focus rfl);(focus exact inferInstance);(focus exact inferInstance);(focus first|exact lk_m1 rfl|exact lk_m2 rfl|exact lk_m3 rfl|exact lk_o rfl|exact lk_a2 rfl|exact lk_a3 rfl|exact lk_a4 rfl|exact lk_a1 rfl|exact lk_a5 rfl|exact lk_a6 rfl|exact lk_a7 rfl|exact lk_a8 rfl|exact lk_a rfl);(focus first|exact lk_m1 rfl|exact lk_m2 rfl|exact lk_m3 rfl|exact lk_o rfl|exact lk_a2 rfl|exact lk_a3 rfl|exact lk_a4 rfl|exact lk_a1 rfl|exact lk_a5 rfl|exact lk_a6 rfl|exact lk_a7 rfl|exact lk_a8 rfl|exact lk_a rfl);(focus first|exact lk_m1 rfl|exact lk_m2 rfl|exact lk_m3 rfl|exact lk_o rfl|exact lk_a2 rfl|exact lk_a3 rfl|exact lk_a4 rfl|exact lk_a1 rfl|exact lk_a5 rfl|exact lk_a6 rfl|exact lk_a7 rfl|exact lk_a8 rfl|exact lk_a rfl);(focus first|exact lk_m1 rfl|exact lk_m2 rfl|exact lk_m3 rfl|exact lk_o rfl|exact lk_a2 rfl|exact lk_a3 rfl|exact lk_a4 rfl|exact lk_a1 rfl|exact lk_a5 rfl|exact lk_a6 rfl|exact lk_a7 rfl|exact lk_a8 rfl|exact lk_a rfl);(focus decide);(focus first|exact sn2 rfl|exact sn3 rfl|exact sn4 rfl|exact sn1 rfl|exact sn5 rfl|exact sn6 rfl|exact sn7 rfl|exact sn8 rfl|exact sn9 rfl|exact sn10 rfl|exact sn11 rfl|exact sn12 rfl|rfl);(focus rfl))
     | exact lop_nilCheck rfl rfl rfl
     | exact lop_conv' rfl rfl rfl (by first|exact IntWalk.i64_in _ (by omega)|exact u64_in (by omega)|exact u32_in (by omega)|exact u8_in (by omega)|exact u16_in (by omega))
     | (apply lop_ms_b;(focus rfl);(focus exact inferInstance);(focus exact inferInstance);(focus exact inferInstance);(focus rfl);(focus rfl);(focus rfl);(focus rfl);(focus rfl);(focus omega);(focus omega);(focus omega);(focus rfl);(focus rfl))
     | (apply lop_ms_i;(focus rfl);(focus exact inferInstance);(focus exact inferInstance);(focus exact inferInstance);(focus rfl);(focus rfl);(focus rfl);(focus rfl);(focus rfl);(focus omega);(focus omega);(focus omega);(focus rfl);(focus rfl))
     | (apply lop_bs0;(focus rfl);(focus exact inferInstance);(focus exact inferInstance);(focus exact inferInstance);(focus rfl);(focus rfl))
     | (apply lop_bs1;(focus rfl);(focus exact inferInstance);(focus exact inferInstance);(focus exact inferInstance);(focus rfl);(focus rfl);(focus rfl))
     | (apply lop_bs2;(focus rfl);(focus exact inferInstance);(focus exact inferInstance);(focus exact inferInstance);(focus rfl);(focus rfl);(focus rfl);(focus rfl))
     | (apply lop_bs3;(focus rfl);(focus exact inferInstance);(focus exact inferInstance);(focus exact inferInstance);(focus rfl);(focus rfl);(focus rfl);(focus rfl);(focus rfl))
     | (apply lop_bs4;(focus rfl);(focus exact inferInstance);(focus exact inferInstance);(focus exact inferInstance);(focus rfl);(focus rfl);(focus rfl);(focus rfl);(focus rfl);(focus rfl))
     | (apply lop_bs5;(focus rfl);(focus exact inferInstance);(focus exact inferInstance);(focus exact inferInstance);(focus rfl);(focus rfl);(focus rfl);(focus rfl);(focus rfl);(focus rfl);(focus rfl))
     | exact lop_bits (.inl rfl) rfl rfl rfl rfl
     | exact lop_neg rfl rfl rfl
     | exact lop_conv rfl rfl rfl
     | (apply lop_build_ar;(focus rfl);(focus exact inferInstance);(focus exact inferInstance);(focus exact inferInstance);(focus repeat' (first|exact All2.nil|apply bp_cons rfl));(focus decide);(focus first|exact sn8 rfl|exact sn64 rfl|exact sn32 rfl|exact sn16 rfl|exact sn21 rfl|exact sn4 rfl);(focus rfl))
     | (apply lop_ixv;(focus rfl);(focus exact inferInstance);(focus exact inferInstance);(focus rfl);(focus rfl);(focus omega);(focus omega);(focus omega);(focus rfl);(focus rfl);(focus rfl);(focus rfl);(focus exact inferInstance))
     | (apply lop_mf1;(focus rfl);(focus rfl);(focus rfl);(focus rfl);(focus first|exact pm1|exact pm2|exact pm3|exact pm4|exact pm5|exact pm6);(focus rfl))
     | (apply lop_mf2;(focus rfl);(focus rfl);(focus rfl);(focus rfl);(focus first|exact pm1|exact pm2|exact pm3|exact pm4|exact pm5|exact pm6);(focus rfl);(focus rfl);(focus rfl);(focus first|exact pm1|exact pm2|exact pm3|exact pm4|exact pm5|exact pm6);(focus decide);(focus rfl))
     | (apply lop_yield;(focus rfl);(focus rfl);(focus rfl);(focus rfl);(focus assumption);(focus rfl))):LOp C o σ e ro:=h
theorem stoA {C:Ctx} {o:Oper} {σ:St} {e:Eff} {ro:Nat→Bool} (h:LOp C o σ e ro:=by
  first|exact lop_store_all rfl rfl rfl rfl rfl rfl rfl rfl|(apply lop_st_arr;(focus rfl);(focus exact inferInstance);(focus rfl);(focus rfl);(focus rfl);(focus rfl);(focus rfl);(focus rfl);(focus rfl);(focus omega))|(apply lop_st_b;(focus rfl);(focus exact inferInstance);(focus rfl);(focus rfl);(focus rfl);(focus rfl);(focus rfl);(focus rfl);(focus rfl);(focus rfl);(focus omega))|(apply lop_store_x;(focus rfl);(focus exact inferInstance);(focus rfl);(focus rfl);(focus rfl);(focus rfl);(focus rfl);(focus rfl);(focus first|decide|(simp [*];done));(focus first|exact ln2 rfl|exact ln3 rfl|exact ln4 rfl|exact ln1 rfl|exact ln5 rfl|exact ln6 rfl|exact ln7 rfl|exact ln8 rfl|exact ln9 rfl|exact ln10 rfl|exact ln11 rfl|exact ln12 rfl|rfl))|exact lop_store_all rfl rfl rfl rfl rfl rfl (by first|(rw [List.length_map];assumption)|(simp [*];done)) (by first|(rw [List.length_map];assumption)|(simp [*];done))):LOp C o σ e ro:=h
theorem knA {α:Type} {f:Nat→α} {l:List (Nat × α)} (h:Knows f l:=by repeat' (first|exact Knows.nil|refine Knows.cons rfl ?_)):Knows f l:=h
theorem frA {σ τ:St} {W M:List Nat} {e:List (Nat × AV)} {m:List (Nat × (Nat × Option MO))} (h:Agr σ W M τ:=by (repeat' (first|exact Agr.fr0 rfl rfl|exact Agr.refl|refine Agr.appg rfl rfl ?_|refine Agr.appgn rfl ?_|refine Agr.set rfl ?_|refine Agr.put rfl ?_|refine Agr.fr ?_ (memb_sub rfl) (memb_sub rfl) rfl rfl)))
  (he:Knows τ.env e:=by exact knA) (hm:Knows τ.mem m:=by exact knA):Fr' σ W e M m τ:=.mk h he hm
section steps
variable {C:Ctx} {ops:Array Oper} {o:Oper} {rest:List Oper} {K:St→Prop} {σ:St} {e:Eff} {ro:Nat→Bool} {W:List (Nat × Nat)} {i:Nat}
theorem rnA {d:Nat} (hg:Guard ops σ o true:=by first|exact gd_n rfl rfl|exact gd_t rfl rfl rfl rfl|exact gd_t rfl rfl rfl (by assumption)) (hd:o.dst=some d:=by rfl) (h:LOp C o σ e ro:=by exact lopA) (hk:RunN C ops rest K (e.app (some d) σ)):RunN C ops (o::rest) K σ:=rn_any hg hd h hk
theorem rnS (hg:Guard ops σ o true:=by first|exact gd_n rfl rfl|exact gd_t rfl rfl rfl rfl|exact gd_t rfl rfl rfl (by assumption)) (hd:o.dst=none:=by rfl) (h:LOp C o σ e ro:=by exact stoA) (hk:RunN C ops rest K (e.app none σ)):RunN C ops (o::rest) K σ:=rn_sto hg hd h hk
theorem rnG {j t:Nat} {want b:Bool} {d:Nat} (hg:o.guard=some (j,want):=by rfl) (ht:(ops[j]?).bind (·.dst)=some t:=by rfl) (hv:σ.env t=.p (.v (.bool b)):=by rfl) (hb:b=!want:=by first|rfl|assumption) (hdd:o.dst=some d:=by rfl) (hd:dOk C o.dst=true:=by rfl) (hk:RunN C ops rest K (σ.set (some d) (.tup []))):RunN C ops (o::rest) K σ:=rn_gf hg ht hv hb hdd hd hk
theorem rnU {j t:Nat} {want:Bool} {d:Nat} (hg:o.guard=some (j,want):=by rfl) (ht:(ops[j]?).bind (·.dst)=some t:=by rfl) (hv:σ.env t=.tup []:=by rfl) (hdd:o.dst=some d:=by rfl) (hd:dOk C o.dst=true:=by rfl) (hk:RunN C ops rest K (σ.set (some d) (.tup []))):RunN C ops (o::rest) K σ:=rn_gu hg ht hv hdd hd hk
theorem rkU {j t:Nat} {want:Bool} {d:Nat} (hg:o.guard=some (j,want):=by rfl) (ht:(ops[j]?).bind (·.dst)=some t:=by rfl) (hv:σ.env t=.tup []:=by rfl) (hdd:o.dst=some d:=by rfl) (hd:dOk C o.dst=true:=by rfl) (hk:RunK C ops W (i+1) rest K (σ.set (some d) (.tup []))):RunK C ops W i (o::rest) K σ:=rk_gu hg ht hv hdd hd hk
theorem rnP {j t:Nat} {want b:Bool} (hg:o.guard=some (j,want):=by rfl) (ht:(ops[j]?).bind (·.dst)=some t:=by rfl) (hv:σ.env t=.p (.v (.bool b)):=by rfl) (h1:b=true→RunN C ops (o::rest) K σ) (h2:b=false→RunN C ops (o::rest) K σ):RunN C ops (o::rest) K σ:=rn_split hg ht hv h1 h2
theorem rnKn {j t:Nat} {want b:Bool} (hg:o.guard=some (j,want):=by rfl) (ht:(ops[j]?).bind (·.dst)=some t:=by rfl) (hv:σ.env t=.p (.v (.bool b)):=by rfl) (hb:b=true∨b=false:=by first|exact .inl (by assumption)|exact .inr (by assumption)) (hk:RunN C ops (o::rest) K σ):RunN C ops (o::rest) K σ:=hk
theorem rkKn {j t:Nat} {want b:Bool} (hg:o.guard=some (j,want):=by rfl) (ht:(ops[j]?).bind (·.dst)=some t:=by rfl) (hv:σ.env t=.p (.v (.bool b)):=by rfl) (hb:b=true∨b=false:=by first|exact .inl (by assumption)|exact .inr (by assumption)) (hk:RunK C ops W i (o::rest) K σ):RunK C ops W i (o::rest) K σ:=hk
theorem rkA {d:Nat} (hg:Guard ops σ o true:=by first|exact gd_n rfl rfl|exact gd_t rfl rfl rfl rfl|exact gd_t rfl rfl rfl (by assumption)) (hd':o.dst=some d:=by rfl) (hd:dOk C o.dst=true:=by rfl) (h:LOp C o σ e ro:=by exact lopA) (hro:∀ x,ro x=true→okObj ops W i x=true:=by first|exact fun _=>ro_none|exact ro_one rfl|exact ro_one (by kernel_rfl)|exact ro_kIn (by decide)) (hob:∀ p∈e.obj,(i,p.1)∈W:=by first|exact ob_none|exact ob_one (by decide)|decide) (hk:RunK C ops W (i+1) rest K (e.app (some d) σ)):RunK C ops W i (o::rest) K σ:=rk_wr hg hd' hd h hro hob hk
theorem rkF {j t:Nat} {want b:Bool} {d:Nat} (hg:o.guard=some (j,want):=by rfl) (ht:(ops[j]?).bind (·.dst)=some t:=by rfl) (hv:σ.env t=.p (.v (.bool b)):=by rfl) (hb:b=!want:=by first|rfl|assumption) (hdd:o.dst=some d:=by rfl) (hd:dOk C o.dst=true:=by rfl) (hk:RunK C ops W (i+1) rest K (σ.set (some d) (.tup []))):RunK C ops W i (o::rest) K σ:=rk_gf hg ht hv hb hdd hd hk
theorem rkP {j t:Nat} {want b:Bool} (hg:o.guard=some (j,want):=by rfl) (ht:(ops[j]?).bind (·.dst)=some t:=by rfl) (hv:σ.env t=.p (.v (.bool b)):=by rfl) (h1:b=true→RunK C ops W i (o::rest) K σ) (h2:b=false→RunK C ops W i (o::rest) K σ):RunK C ops W i (o::rest) K σ:=rk_split hg ht hv h1 h2
end steps
theorem ifT {C:Ctx} {σ:St} {Q:Exit→St→Prop} {k:List Code} {cd:Operand} {x y:Code} {b:Bool} (hv:σ.look cd=.p (.v (.bool b)):=by rfl) (hb:b=true:=by first|rfl|assumption) (h1:AWs C (x::k) Q σ):AWs C (.cond cd x y::k) Q σ:=aws_if_t hv hb h1
theorem ifF {C:Ctx} {σ:St} {Q:Exit→St→Prop} {k:List Code} {cd:Operand} {x y:Code} {b:Bool} (hv:σ.look cd=.p (.v (.bool b)):=by rfl) (hb:b=false:=by first|rfl|assumption) (h1:AWs C (y::k) Q σ):AWs C (.cond cd x y::k) Q σ:=aws_if_f hv hb h1
theorem ifB {C:Ctx} {σ:St} {Q:Exit→St→Prop} {k:List Code} {cd:Operand} {x y:Code} {b:Bool} (hv:σ.look cd=.p (.v (.bool b)):=by rfl) (h1:b=true→AWs C (x::k) Q σ) (h2:b=false→AWs C (y::k) Q σ):AWs C (.cond cd x y::k) Q σ:=aws_if hv h1 h2
theorem ifQ {C:Ctx} {σ:St} {Q:Exit→St→Prop} {k:List Code} {cd:Operand} {x y:Code} {q:Prop} (hv:σ.look cd=.p (.qb q):=by rfl) (h1:q→AWs C (x::k) Q σ) (h2:True→AWs C (y::k) Q σ):AWs C (.cond cd x y::k) Q σ:=aws_if_qb hv h1 h2
theorem stp {X Y:Prop} (e:Y→X:=by
  first|exact rn_nil|exact rk_nil|exact aws_seq|exact aws_region|exact aws_skip|exact aws_label|exact aws_goto|exact aws_exit|exact aws_nil|exact aws_blk_s|exact aws_blk_r|exact aws_blk_c|exact blk_exit|exact blk_normal|exact blk_ret|exact aws_ret|fail) (h:Y):X:=e h
structure Tg (X:Prop):Prop where v:X
theorem spQ {b c:Bool} {X q:Prop} (h:b=c→q→X) (s:b=c→q:=by intro hq;first|(simp only [hqs] at hq;exact hq)|exact hq):Tg (b=c→X):=⟨fun e=>h e (s e)⟩
theorem spF {b c:Bool} {X:Prop} (s:b=c→False:=by intro hq;(simp only [hqs] at hq)<;>fail):Tg (b=c→X):=⟨fun e=>(s e).elim⟩
theorem spN {q X:Prop} (h:q→X):Tg (q→X):=⟨h⟩
theorem spK {X Y P:Prop} (h:P):X→Y→P:=fun _ _=>h
theorem jx0 {X P:Prop} (x:X) (h:X→P:=by first|exact rnB|exact rnSB|exact rnG|exact rnU|exact rkB|exact rkSB|exact rkF|exact rkU|exact stp|exact aws_draws [] mixed (by kernel_rfl)|exact ifT|exact ifF|fail):P:=h x
theorem jx1 {X P:Prop} (x:X) (h:X→P:=by first|exact rnQ|exact rnSQ|exact rnG|exact rnU|exact rkQ|exact rkSQ|exact rkF|exact rkU|exact stp|exact aws_draws [] mixed (by kernel_rfl)|exact ifT|exact ifF|fail):P:=h x
theorem jx2 {X P:Prop} (x:X) (h:X→P:=by first|exact rnJ|exact rnSB|exact rnG|exact rnU|exact rkJ|exact rkSB|exact rkF|exact rkU|exact stp|exact aws_draws [] mixed (by kernel_rfl)|exact ifT|exact ifF|fail):P:=h x
theorem jx3 {X P:Prop} (x:X) (h:X→P:=by first|exact rnC|exact rnSQ|exact rnG|exact rnU|exact rkC|exact rkSQ|exact rkF|exact rkU|exact stp|exact ifT|exact ifF|fail):P:=h x
theorem jx4 {X P:Prop} (x:X) (h:X→P:=by first|exact rnY|exact rnSQ|exact rnG|exact rnU|exact rkY|exact rkSQ|exact rkF|exact rkU|exact stp|exact aws_draws [] mixed (by kernel_rfl)|exact ifT|exact ifF|fail):P:=h x
theorem jx5 {X P:Prop} (x:X) (h:X→P:=by first|exact rnC|exact rnSB|exact rnG|exact rnU|exact rkC|exact rkSB|exact rkF|exact rkU|exact stp|exact ifT|exact ifF|fail):P:=h x
theorem jx6 {X P:Prop} (x:X) (h:X→P:=by first|exact rnC|exact rnSB|exact rnG|exact rnU|exact rkC|exact rkSB|exact rkF|exact rkU|exact stp|exact aws_draws [] mixed (by kernel_rfl)|exact ifT|exact ifF|fail):P:=h x
theorem jx7 {X P:Prop} (x:X) (h:X→P:=by first|exact rk_nil|exact rkC|exact rkSB|exact rkF|exact rkU|fail):P:=h x
theorem jx8 {X P:Prop} (x:X) (h:X→P:=by first|exact rnC|exact rnSB|exact rnG|exact rnU|exact rkC|exact rkSB|exact rkF|exact rkU|exact stpR|exact ifT|exact ifF|fail):P:=h x
theorem jx9 {X P:Prop} (x:X) (h:X→P:=by first|exact rnAW|exact rnS|exact rnG|exact rnU|exact rkAW|exact rkS|exact rkF|exact rkU|exact stp|exact ifT|exact ifF|fail):P:=h x
theorem jx10 {X P:Prop} (x:X) (h:X→P:=by first|exact rk_nil|exact rkAW|exact rkS|exact rkF|exact rkU|fail):P:=h x
theorem jx11 {X P:Prop} (x:X) (h:X→P:=by first|exact rnA|exact rnS|exact rnG|exact rnU|exact rkA|exact rkS|exact rkF|exact rkU|exact stp|exact ifT|exact ifF|fail):P:=h x
theorem jx12 {X P:Prop} (x:X) (h:X→P:=by first|exact rnA|exact rnS|exact rnG|exact rnU|exact rkA|exact rkS|exact rkF|exact rkU|exact stp|exact aws_draws [] mixed (by kernel_rfl)|exact ifT|exact ifF|fail):P:=h x
theorem jx13 {X P:Prop} (x:X) (h:X→P:=by first|exact rk_nil|exact rkA|exact rkS|exact rkF|exact rkU|fail):P:=h x
theorem jx14 {X P:Prop} (x:X) (h:X→P:=by first|exact rnC|exact rnSM|exact rnG|exact rnU|exact rkC|exact rkSM|exact rkF|exact rkU|exact stp|exact ifT|exact ifF|fail):P:=h x
theorem jx15 {X P:Prop} (x:X) (h:X→P:=by first|exact rk_nil|exact rkC|exact rkSM|exact rkF|exact rkU|fail):P:=h x
theorem jx16 {X P:Prop} (x:X) (h:X→P:=by first|exact rnC|exact rnSB|exact rnG|exact rnU|exact rkC|exact rkSB|exact rkF|exact rkU|exact stpB|exact ifT|exact ifF|fail):P:=h x
theorem jx17 {X P:Prop} (x:X) (h:X→P:=by first|exact rnC|exact rnSH|exact rnG|exact rnU|exact rkC|exact rkSH|exact rkF|exact rkU|exact stp|exact ifT|exact ifF|fail):P:=h x
theorem jx18 {X P:Prop} (x:X) (h:X→P:=by first|exact rnC|exact rnSH|exact rnG|exact rnU|exact rkC|exact rkSH|exact rkF|exact rkU|exact stpR|exact ifT|exact ifF|fail):P:=h x
theorem jx19 {X P:Prop} (x:X) (h:X→P:=by first|exact rnC|exact rnSH|exact rnG|exact rnU|exact rkC|exact rkSH|exact rkF|exact rkU|exact stpR|exact aws_draws [] mixed (by kernel_rfl)|exact ifT|exact ifF|fail):P:=h x
theorem jx20 {X P:Prop} (x:X) (h:X→P:=by first|exact rnC|exact rnSQ|exact rnG|exact rnU|exact rkC|exact rkSQ|exact rkF|exact rkU|exact stpR|exact ifT|exact ifF|fail):P:=h x
theorem jx21 {X P:Prop} (x:X) (h:X→P:=by first|exact rk_nil|exact rkC|exact rkSH|exact rkF|exact rkU|fail):P:=h x
theorem jx22 {X P:Prop} (x:X) (h:X→P:=by first|exact rnC|exact rnSH|exact rnG|exact rnU|exact rkC|exact rkSH|exact rkF|exact rkU|exact stp|exact aws_draws [] mixed (by kernel_rfl)|exact ifT|exact ifF|fail):P:=h x
theorem jy0 {X Y P:Prop} (x:Tg X) (y:Tg Y) (h:X→Y→P:=by first|((fail_if_success (refine spK (rnKn (hk:=?_))));exact rnP)|((fail_if_success (refine spK (rkKn (hk:=?_))));exact rkP)|exact ifQ|exact ifB|fail):P:=h x.v y.v
theorem jy1 {X Y P:Prop} (x:Tg X) (y:Tg Y) (h:X→Y→P:=by first|((fail_if_success (refine spK (rkKn (hk:=?_))));exact rkP)|fail):P:=h x.v y.v
theorem jy2 {X Y P:Prop} (x:Tg X) (y:Tg Y) (h:X→Y→P:=by first|((fail_if_success (refine spK (rnKn (hk:=?_))));exact rnP)|((fail_if_success (refine spK (rkKn (hk:=?_))));exact rkP)|fail):P:=h x.v y.v
end Go.Aw
