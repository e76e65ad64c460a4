/- The layer's texts CoreK, CoreL, CoreM, CoreO, one behind the other. -/
import Derived.Test.YtkgploeegbmofaaGreatSEA00
import Derived.Laws.MakeOwn
import Derived.Lib.SliceRun
import Derived.Laws.Entries
import Derived.Lib.AppendZeros
import Derived.Laws.BytesArg
import Derived.Laws.IdiomStrings
import Derived.Laws.Strings
import Derived.Laws.StructEq
import Derived.ControlIn
import Derived.AtR
import Derived.ProofKit
import Derived.OpenShut
import Derived.ChangeOld
import Derived.Below
import Derived.Carry
import Derived.Lib.SlBytesConst
/- THE ABSTRACT WALK, part 11: what a walk may say anew of a state; more operations. -/
namespace Go.Aw
open Go Go.RowKit
set_option linter.unusedVariables false
set_option linter.unusedSimpArgs false
/-! ### A state, said otherwise -/
def Says (C:Ctx) (σ τ:St):Prop:=∀ a w,Rel C σ a w→Rel C τ a w
theorem aws_says {C:Ctx} {σ τ:St} {c:Code} {k:List Code} {Q:Exit→St→Prop} (h:Says C σ τ) (hk:AWs C (c::k) Q τ):AWs C (c::k) Q σ:=fun a w hr=>hk a w (h a w hr)
theorem rn_says {C:Ctx} {ops:Array Oper} {o:Oper} {rest:List Oper} {K:St→Prop} {σ τ:St} (h:Says C σ τ) (hg:o.guard=none) (hk:RunN C ops (o::rest) K τ):RunN C ops (o::rest) K σ:=by
 rcases hk with ⟨g,τ',h1,h2⟩ | ⟨g,_⟩
 ·exact .inl ⟨by unfold Guard;rw [hg],τ',fun a w hr=>h1 a w (h a w hr),h2⟩
 ·unfold Guard at g;rw [hg] at g;cases g
theorem RelG.alias {C:Ctx} {σ:St} {a:Act} {w:World} {G:Gh} (h:RelG C σ a w G) {t:Nat} {v:AV} (hv:v.holds G.μ ⟨w,G.S⟩ (a.tmps.getD t undef)):RelG C (σ.set (some t) v) a w G:=
 { h with
  env:=fun s=>by
   simp only [St.set]
   by_cases hs:s=t
   ·subst hs;simpa using hv
   ·simpa [hs] using h.env s }
theorem says_nil {C:Ctx} {σ:St} {t o n ty es:Nat} {mo:Option MO} (hv:σ.env t=.p (.v (.slice none 0 0))) (hm:σ.mem o=(n,mo)) (hes:0 < es) :
  Says C σ ((σ.put o (n+1,some (.buf ty es []))).set (some t) (.o (.osl o n es 0 0))):=by
 rintro a w ⟨G,h⟩
 have hlen:(G.μ o).length=n:=by have:=h.gens o;rw [hm] at this;exact this
 have hu:=h.upd (o:=o) (n':=n+1) (mo':=some (.buf ty es [])) (μo:=G.μ o++[(none,0)]) (fp':=[]) (w':=w) (fun g x hx=>by
  rw [List.getElem?_append_left (List.getElem?_eq_some_iff.1 hx).1];exact hx) (by simp [hlen]) rfl .same rfl (Nat.le_refl _) (fun _ _ _=>rfl) (fun b hb=>by simp at hb) (fun mo hmo=>by
   obtain rfl:=Option.some.inj hmo
   exact ⟨n,(none,0),rfl,by simp [hlen],hes,by simp [maxLen],Nat.le_refl _,.inl ⟨rfl,rfl,rfl⟩⟩)
 have h1:=h.env t
 rw [hv] at h1
 refine ⟨_,hu.alias ?_⟩
 refine ⟨none,0,by simp [hlen],Nat.le_refl _,?_⟩
 simpa using h1.1
theorem sl_of_buf {μ:Mu} {X:Wd} {m:Option Nat} {c:Nat} {v:Value} {es ty:Nat} {rows:List (List PVal)} (hc:c≤maxLen) (hl:rows.length≤c) (h3:(m=none∧c=0)∨∃ b arr,m=some b∧X.S b∧X.w.heap[b]?=some (.cells arr ty (0,0))∧RowsAt X arr 0 es rows)
  (h:v=.slice (m.map fun b=>⟨b,0,none⟩) rows.length c):(PVal.sl es rows false).holds X v:=by
 refine ⟨m.map fun b=>⟨b,0,none⟩,c,h,hl,hc,by simp,?_⟩
 rcases h3 with ⟨rfl,rfl⟩ | ⟨b,arr,rfl,k1,k2,k3⟩
 ·exact ⟨List.eq_nil_of_length_eq_zero (by omega),rfl⟩
 ·exact .inr ⟨rfl,k1,arr,ty,(0,0),k2,by simpa using k3⟩
theorem says_frz {C:Ctx} {σ:St} {t o g n ty es len:Nat} {rows:List (List PVal)} (hv:σ.env t=.o (.osl o g es 0 len)) (hm:σ.mem o=(n,some (.buf ty es rows))) (hn:n=g+1) (hl:len=rows.length) :
  Says C σ ((σ.put o (n,some (.frz ty es rows))).set (some t) (.p (.sl es rows false))):=by
 subst hn hl
 rintro a w ⟨G,h⟩
 obtain ⟨g',m,hg,hmm,hes,hmax,hrl,hh⟩:=h.mem o _ _ hm
 obtain rfl:g=g':=by omega
 have hh':(m.1=none∧m.2=0)∨∃ b arr,m.1=some b∧(G.S b∨b∈G.φ o)∧w.heap[b]?=some (.cells arr ty (0,0))∧RowsAt ⟨w,fun b=>G.S b∨b∈G.φ o⟩ arr 0 es rows:=by
  rcases hh with ⟨h3,h4,_⟩ | ⟨b,arr,h3,h4,h5,h6,h7⟩
  ·exact .inl ⟨h3,h4⟩
  ·refine .inr ⟨b,arr,h3,.inr (by rw [h4];simp),h5,fun i row hr=>⟨(h7 i row hr).1,fun j p hp=>?_⟩⟩
   obtain ⟨c,hc,hp'⟩:=(h7 i row hr).2 j p hp
   exact ⟨c,hc,p.mono (x:=⟨w,G.S⟩) (fun b hb=>⟨.inl hb,rfl⟩) hp'⟩
 have hf:=h.freeze (o:=o) (mo':=some (.frz ty es rows)) hm (fun x hx=>by
  obtain rfl:=Option.some.inj hx
  exact ⟨g,m,rfl,hmm,rfl,hmax,hrl,hh'⟩)
 have h1:=h.env t
 rw [hv] at h1
 obtain ⟨m',c,k1,k2,k3⟩:=h1
 rw [k1] at hmm;obtain rfl:=Option.some.inj hmm
 refine ⟨_,hf.alias ?_⟩
 exact sl_of_buf (μ:=G.μ) (ty:=ty) hmax hrl hh' (by simpa using k3)
theorem says_nils {C:Ctx} {σ:St} {t es:Nat} (hv:σ.env t=.p (.v (.slice none 0 0))):Says C σ (σ.set (some t) (.p (.sl es [] true))):=by
 rintro a w ⟨G,h⟩
 have h1:=h.env t
 rw [hv] at h1
 exact ⟨_,h.alias ⟨none,0,h1.1,Nat.le_refl _,by simp [maxLen],fun _=>rfl,rfl,rfl⟩⟩
theorem says_inex {C:Ctx} {σ:St} {t es:Nat} {rows:List (List PVal)} {ex:Bool} (hv:σ.env t=.p (.sl es rows ex)):Says C σ (σ.set (some t) (.p (.sl es rows false))):=by
 rintro a w ⟨G,h⟩
 have h1:=h.env t
 rw [hv] at h1
 obtain ⟨base,cap,k1,k2,k3,k4,k5⟩:=h1
 exact ⟨_,h.alias ⟨base,cap,k1,k2,k3,by simp,k5⟩⟩
section ops
variable {C:Ctx} {o:Oper} {σ:St}
theorem lop_min {x y:Operand} {T1 T2:TypeId} {k:IntKind} {m n:Int} (ho:o.op=.call ⟨.builtin .min,#[x,y],#[T1,T2]⟩) (hx:σ.look x=.p (.v (.int k m))) (hy:σ.look y=.p (.v (.int k n))) (hd:dOk C o.dst=true) :
  LOp C o σ ⟨.p (.v (.int k (if n < m then n else m))),[]⟩ (fun _=>false):=
 lop_val hd fun τ a w G hl hm h=>by
  have e1:=val_of h ((hl x (by simp [ho,Op.operands,Call.operands])).trans hx)
  have e2:=val_of h ((hl y (by simp [ho,Op.operands,Call.operands])).trans hy)
  exact ⟨_,by simp [execOp,ho,resolve,invoke,builtin,e1,e2,Builtin.min_,Builtin.min2],rfl,rfl⟩
/-! pointers -/
theorem lop_nilCheck {x:Operand} {ob g off:Nat} (ho:o.op=.nilCheck x) (hx:σ.look x=.o (.ptr ob g off)) (hd:dOk C o.dst=true):LOp C o σ ⟨.o (.ptr ob g off),[]⟩ (fun _=>false):=
 lop_val hd fun τ a w G hl hm h=>by
  obtain ⟨b,c,h1,h2⟩:=look_of h ((hl x (by simp [ho,Op.operands])).trans hx)
  exact ⟨_,by simp only [execOp,ho,h2];rfl,b,c,h1,rfl⟩
theorem lop_ptr_eqnil {t e t':TypeId} {x y:Operand} {sz by_:Nat} [hT:TI C.P t (.ptr e) sz by_] {ob g off:Nat} (ho:o.op=.binOp .eql t x y t') (hx:σ.look x=.o (.ptr ob g off)) (hy:σ.look y=.p (.v (.pointer none))) (hd:dOk C o.dst=true) :
  LOp C o σ ⟨.p (.v (.bool false)),[]⟩ (fun _=>false):=
 lop_val hd fun τ a w G hl hm h=>by
  obtain ⟨b,c,h1,h2⟩:=look_of h ((hl x (by simp [ho,Op.operands])).trans hx)
  have e2:=val_of h ((hl y (by simp [ho,Op.operands])).trans hy)
  obtain ⟨d,hdd,hk⟩:=hT.undd
  have:d=.pointer e:=by cases d<;>simp [TK.of] at hk;rw [hk]
  subst this
  refine ⟨.bool false,?_,rfl,rfl⟩
  have hr:=run_eql_pointer_nil (P:=C.P) w t (some ⟨b,off,none⟩) (by simp [Program.pointee,hdd])
  simp only [execOp,ho,h2,e2,Sem.run_bind]
  have hg:(eqGuard .eql t x y (.pointer (some ⟨b,off,none⟩)) (.pointer none)).run C.P w=.ok () w:=by
   unfold eqGuard;simp [pure]
  rw [hg];simp [hr]
/-! own slices -/
theorem lop_indexAddr_osl {T e:TypeId} {x ix:Operand} {sz by_:Nat} [hT:TI C.P T (.slice e) sz by_] {ke:TK} {sze be:Nat} [he:TI C.P e ke sze be] {ob g n len ty:Nat} {rows:List (List PVal)} {k:IntKind} {i:Int}
  (ho:o.op=.indexAddr T x ix) (hx:σ.look x=.o (.osl ob g sze 0 len)) (hm:σ.mem ob=(n,some (.buf ty sze rows))) (hn:n=g+1) (hl:len≤rows.length) (hi:σ.look ix=.p (.v (.int k i))) (h0:0≤i) (hb:i < len) (hd:dOk C o.dst=true) :
  LOp C o σ ⟨.o (.ptr ob g (i.toNat * sze)),[]⟩ (fun y=>y == ob):=
 lop_val hd fun τ a w G hl' hm' h=>by
  subst hn
  obtain ⟨m,c,h1,h2,h3⟩:=look_of h ((hl' x (by simp [ho,Op.operands])).trans hx)
  have e2:=val_of h ((hl' ix (by simp [ho,Op.operands])).trans hi)
  obtain ⟨g',m',hg,hmm,hes,hmax,hrl,hh⟩:=h.mem ob _ _ (by rw [hm' ob (by simp)];exact hm)
  obtain rfl:g=g':=by omega
  rw [h1] at hmm;obtain rfl:=Option.some.inj hmm
  rcases hh with ⟨h4,h5,_⟩ | ⟨b,arr,h4,h5,h6,h7,h8⟩
  ·simp only at h5 hrl;omega
  ·simp only at h4;subst h4
   obtain ⟨d,hdd,hk⟩:=hT.undd
   have:d=.slice e:=by cases d<;>simp [TK.of] at hk;rw [hk]
   subst this
   refine ⟨.pointer (some ⟨b,i.toNat * sze,none⟩),?_,b,c,h1,rfl⟩
   have hb':0≤i∧i < (len:Int):=⟨h0,hb⟩
   simp [execOp,ho,h3,e2,Instr.indexAt,asIntOf,run_underlying hdd,hb',he.run_sizeOf,add_addr]
theorem lop_store_row {T:TypeId} {x y:Operand} {k:TK} {sz by_:Nat} [hT:TI C.P T k sz by_] {ob g n ty i:Nat} {rows:List (List PVal)} {row:List PVal} {s:SV} (ho:o.op=.store T x y) (hdst:o.dst=none) (hx:σ.look x=.o (.ptr ob g (i * sz))) (hy:σ.look y=.s s)
  (hsc:s.cells=row.map .p) (hrl:row.length=sz) (hm:σ.mem ob=(n,some (.buf ty sz rows))) (hn:n=g+1) (hi:i < rows.length):LOp C o σ ⟨.un,[(ob,(n,some (.buf ty sz (rows.set i row))))]⟩ (fun z=>z == ob):=
 lop_same (by simp) (by rw [hdst];rfl) hm fun τ a w G g0 m hl' hm' h hng hmm hh=>by
  subst hn
  obtain rfl:g=g0:=by omega
  obtain ⟨b,c',h1,h2⟩:=look_of h ((hl' x (by simp [ho,Op.operands])).trans hx)
  have h3:s.holds G.μ ⟨w,G.S⟩ (a.eval y):=look_of h ((hl' y (by simp [ho,Op.operands])).trans hy)
  obtain ⟨hes,hmax,hrl2,hh⟩:=hh
  rw [h1] at hmm;obtain rfl:=Option.some.inj hmm
  rcases hh with ⟨h4,_⟩ | ⟨b',arr,h4,h5,h6,h7,h8⟩
  ·simp at h4
  ·simp only [Option.some.injEq] at h4;subst h4
   have h9:=h3.cells
   rw [hsc] at h9
   have hvl:(a.eval y).cells.toList.length=sz:=by rw [← h9.1];simpa using hrl
   have hone:∀ u∈(a.eval y).cells.toList,u.oneCell'=true:=fun u hu=>by
    obtain ⟨j,hj,hu'⟩:=List.mem_iff_getElem.1 hu
    have hj':j < (row.map AC.p).length:=by rw [h9.1];exact hj
    exact (h9.2 j (row.map AC.p)[j] u (by simp [hj']) (by rw [← hu'];exact List.getElem?_eq_getElem _)).one
   have hmul:i * sz+sz≤arr.size:=by
    simp only at h7 hrl2
    rw [h7]
    calc i * sz+sz=(i+1) * sz:=by rw [Nat.add_mul,Nat.one_mul]
     _≤c' * sz:=Nat.mul_le_mul_right _ (by omega)
   have h6':w.heap[b]?=some (.cells arr.toList.toArray ty (0,0)):=by simpa using h6
   have hr:=run_storeVar hT h6' (off:=i * sz) (v:=a.eval y) (by simpa using hmul) (by simpa using hvl) hone
   have hle:Wd.le ⟨w,G.S⟩ ⟨w.setRow b (arr.toList.take (i * sz)++(a.eval y).cells.toList++arr.toList.drop (i * sz+sz)).toArray,G.S⟩:=fun k hk=>
    ⟨hk,setRow_other w b k _ fun e=>h.stab ob b (by rw [h5];simp) (e ▸ hk)⟩
   refine ⟨.skip,undef,w.setRow b (arr.toList.take (i * sz)++(a.eval y).cells.toList++arr.toList.drop (i * sz+sz)).toArray,?_,.inr ⟨rfl,rfl⟩,setRow_frame.1,setRow_frame.2.1,setRow_frame.2.2.1,setRow_frame.2.2.2,
    fun k _ hk=>setRow_other w b k _ fun e=>hk (by rw [h5,e];simp),⟨hes,hmax,by simpa using hrl2,.inr ⟨b,_,rfl,h5,setRow_heap w b _ _ ty _ h6',?_,?_⟩⟩,trivial⟩
   ·simp only [execOp,ho,h2,Instr.storeAt,Instr.sureAddr,Sem.run_bind,Sem.run_pure,Result.andThen_ok,hr]
   ·simp only [List.size_toArray,List.length_append,List.length_take,List.length_drop,Array.length_toList,hvl]
    rw [Nat.min_eq_left (by omega)]
    simp only at h7;omega
   ·intro q r hq
    by_cases hqi:q=i
    ·subst hqi
     rw [List.getElem?_set_self hi] at hq
     obtain rfl:=Option.some.inj hq
     refine ⟨hrl,fun j p hp=>?_⟩
     obtain ⟨v,hv,hpv⟩:=h9.get (i:=j) (a:=.p p) (by simp [hp])
     refine ⟨v,?_,p.mono hle hpv⟩
     have hj:j < (a.eval y).cells.toList.length:=(List.getElem?_eq_some_iff.1 hv).1
     simp only [Nat.zero_add,List.getElem?_toArray]
     rw [List.append_assoc,List.getElem?_append_right (by simp;omega),List.getElem?_append_left (by simp at hj ⊢;omega),← hv]
     congr 1;simp;omega
    ·rw [List.getElem?_set_ne (fun e=>hqi e.symm)] at hq
     obtain ⟨e1,e2⟩:=h8 q r hq
     refine ⟨e1,fun j p hp=>?_⟩
     obtain ⟨v,hv,hpv⟩:=e2 j p hp
     refine ⟨v,?_,p.mono hle hpv⟩
     have hj:j < sz:=by rw [← e1];exact (List.getElem?_eq_some_iff.1 hp).1
     rw [← hv]
     simp only [Nat.zero_add,List.getElem?_toArray]
     rcases Nat.lt_or_ge q i with hlt|hge
     ·have:q * sz+sz≤i * sz:=by
       calc q * sz+sz=(q+1) * sz:=by rw [Nat.add_mul,Nat.one_mul]
        _≤i * sz:=Nat.mul_le_mul_right _ hlt
      rw [List.append_assoc,List.getElem?_append_left (by simp;omega),List.getElem?_take,if_pos (by omega)];simp
     ·have:i * sz+sz≤q * sz:=by
       calc i * sz+sz=(i+1) * sz:=by rw [Nat.add_mul,Nat.one_mul]
        _≤q * sz:=Nat.mul_le_mul_right _ (by omega)
      rw [List.getElem?_append_right (by simp [hvl] at *;omega),List.getElem?_drop]
      simp only [List.length_append,List.length_take,Array.length_toList,hvl]
      rw [Nat.min_eq_left (by omega)]
      rw [show i * sz+sz+(q * sz+j - (i * sz+sz))=q * sz+j from by omega];simp
theorem lop_append_ex {T e:TypeId} {x y:Operand} {sz by_:Nat} [hT:TI C.P T (.slice e) sz by_] {ke:TK} {es be:Nat} [he:TI C.P e ke es be] {z:List Value} [hz:TZ C.P e z] {rows news:List (List PVal)} {ro:Nat→Bool}
  (ho:o.op=.call ⟨.builtin .append,#[x,y],#[T,T]⟩) (hx:σ.look x=.p (.sl es rows true)) (hsrc:SrcOk C σ y es news ro) (hzl:z.length=es) (h63:rows.length+news.length≤maxLen) (hby:(rows.length+news.length) * be≤140737488355328) (hd:dOk C o.dst=true) :
  LOp C o σ ⟨.p (.sl es (rows++news) false),[]⟩ ro:=
 lop_grow hd fun τ a w G hl hm' h=>by
  obtain ⟨bs,cap0,p1,p2,p3,p4,p5⟩:=look_of h ((hl x (by simp [ho,Op.operands,Call.operands])).trans hx)
  obtain rfl:=p4 rfl
  obtain ⟨base,cap,h1,h2⟩:=hsrc τ a w G (hl y (by simp [ho,Op.operands,Call.operands])) (fun q hq=>hm' q hq) h
  obtain ⟨nvs,k1,k2,k3,k4⟩:=src_vals (τ:=τ) (a:=a) h2
  by_cases h0:news.length=0
  ·have hnil:news=[]:=List.eq_nil_of_length_eq_zero h0
   subst hnil
   have hr:=app_nothing (ty:=o.type) hT he (w:=w) (bs:=bs) (src:=base) (n:=rows.length) (cap:=rows.length) (c:=cap) (Nat.le_refl _)
   refine ⟨.slice bs rows.length rows.length,w,?_,Quiet.refl w,?_⟩
   ·simp only [execOp,ho,resolve,invoke,builtin,Sem.run_bind,Sem.run_pure,Result.andThen_ok,List.map_toArray,List.map_cons,List.map_nil,p1,h1,List.length_nil,hr]
   ·simp only [List.append_nil]
    have:(PVal.sl es rows false).holds ⟨w,G.S⟩ (.slice bs rows.length rows.length):=⟨bs,rows.length,rfl,p2,p3,by simp,p5⟩
    exact (PVal.sl es rows false).mono (x:=⟨w,G.S⟩) (fun b hb=>⟨.inl hb,rfl⟩) this
  ·have hold:∃ olds:List Value,((bs=none∧rows.length=0∧rows.length=0∧olds=[])∨∃ b,bs=some b∧olds.length=rows.length * es∧rows.length≤rows.length∧∀ j u,olds[j]?=some u→w.cell? (b.add j)=some u)∧
     olds.length=rows.length * es∧(∀ i row,rows[i]?=some row→row.length=es∧∀ j p,row[j]?=some p→∃ u,olds[i * es+j]?=some u∧p.holds ⟨w,G.S⟩ u):=by
    cases bs with
    | none=>
     obtain ⟨q1,q2⟩:=p5
     subst q1
     exact ⟨[],.inl ⟨rfl,rfl,rfl,rfl⟩,by simp,by simp⟩
    | some b=>
     rcases p5 with p5 | ⟨g1,g2,cs,ty,fr,g3,g4⟩
     ·subst p5
      exact ⟨[],.inr ⟨b,rfl,by simp,Nat.le_refl _,by simp⟩,by simp,by simp⟩
     have hcell:∀ j,w.cell? (b.add j)=cs[b.off+j]?:=fun j=>cell_at g1 g3 j
     obtain ⟨vs,q1,q2,q3,q4⟩:=rows_vals (X:=⟨w,G.S⟩) (es:=es) (f:=fun j=>w.cell? (b.add j)) rows (fun i row hr=>⟨(g4 i row hr).1,fun j p hp=>by
      obtain ⟨u,hu,hpu⟩:=(g4 i row hr).2 j p hp
      exact ⟨u,by simp only [hcell];rw [← hu];congr 1;omega,hpu⟩⟩)
     exact ⟨vs,.inr ⟨b,rfl,q1,Nat.le_refl _,fun j u hu=>q2 j u hu⟩,q1,q4⟩
   obtain ⟨olds,hb,hol,ho4⟩:=hold
   obtain ⟨cap',arr,hr,g1,g2,g3,g4⟩:=app_fresh (ty:=o.type) hT he hz hzl (w:=w) (src:=base) (m:=news.length) (c:=cap) (news:=nvs) hb k1 k2 (by omega) h63 hby
   refine ⟨.slice (some ⟨w.heap.size,0,none⟩) (rows.length+news.length) cap',w.drew.alloc (.cells arr e),by
    simp only [execOp,ho,resolve,invoke,builtin,Sem.run_bind,Sem.run_pure,Result.andThen_ok,List.map_toArray,List.map_cons,List.map_nil,p1,h1,hr],
    ⟨rfl,.same,rfl,by simp,fun k hk=>Below.heap_alloc w.drew _ k hk⟩,?_⟩
   refine ⟨some ⟨w.heap.size,0,none⟩,cap',by simp,by simpa using g1,g2,by simp,.inr ⟨rfl,.inr ⟨Nat.le_refl _,by simp⟩,arr,e,(0,0),heap_alloc_new w.drew _,?_⟩⟩
   have:=rowsAt_append (X:=⟨w,G.S⟩) (arr:=arr) (es:=es) (rows:=rows) (news:=news) (olds:=olds) (nvs:=nvs) hol k1 g4 ho4 k4
   intro i row hrow
   refine ⟨(this i row hrow).1,fun j p hp=>?_⟩
   obtain ⟨u,hu,hpu⟩:=(this i row hrow).2 j p hp
   refine ⟨u,by simpa using hu,p.mono (x:=⟨w,G.S⟩) (fun b hb=>⟨.inl hb,Below.heap_alloc w.drew _ b (h.sbd b hb).1⟩) hpu⟩
end ops
end Go.Aw
/- THE ABSTRACT WALK, part 12: calls that are lent one object, or make one; steps in drawn regions that write. -/
namespace Go.Aw
open Go Go.RowKit
set_option linter.unusedVariables false
set_option linter.unusedSimpArgs false
class OC (P:Program) (f:FuncId) (args:List AV) (lent:List (Nat × (Nat × Option MO))) (fresh:List (Nat × Nat)) (pre:outParam Prop) (r:outParam AV) (upds:outParam (List (Nat × (Nat × Option MO)))):Prop where
 call:pre→OCAt P f args lent fresh r upds
class PtrIn (l:List AV) (c:outParam Nat):Prop where
 t:True
instance (priority:=high) {c g off:Nat} {l:List AV}:PtrIn (.s (.one (.ptr c g off))::l) c:=⟨trivial⟩
def rn1 (c:Nat):Rn:=fun k=>if k=1000 then some (c,none) else none
def rnF (q c n:Nat):Rn:=fun k=>if k=q then some (c,some n) else none
theorem OCall.one {P:Program} {f:FuncId} {args:List AV} {n:Nat} {mo:MO} {r:AV} {m1:Nat × Option MO} (h:OCall P f args (memL [(1000,(n,some mo))]) r (memL [(1000,m1)])) (c:Nat) :
  OCAt P f (args.map (AV.ren (rn1 c))) [(c,(n,some (mo.ren (rn1 c))))] [] (r.ren (rn1 c)) [(c,(m1.1,m1.2.map (MO.ren (rn1 c))))]:=by
 refine ocat_of (rn1 c) (fun x=>if x=c then some (1000,none) else none) h ?_ ?_ ?_ ?_ ?_ ?_
 ·intro k c' s
  unfold rn1
  by_cases hk:k=1000<;>by_cases hc:c'=c<;>simp [hk,hc]<;>(first|(intro e;exact absurd e.symm hc)|(intro e;exact absurd e.symm hk)|skip)
 ·intro k c' hk
  unfold rn1 at hk
  split at hk
  ·simp at hk;subst hk;rename_i h1;subst h1;simp [memL]
  ·cases hk
 ·intro k c' n' hk
  unfold rn1 at hk
  split at hk<;>simp at hk
 ·intro k hk
  unfold rn1 at hk
  split at hk
  ·cases hk
  ·rename_i h1;simp [memL,h1]
 ·intro c' k s hc
  split at hc
  ·rename_i h1;subst h1;simp at hc;obtain ⟨rfl,rfl⟩:=hc
   exact ⟨by simp [kIn],fun mem=>by simp [putsM,memL]⟩
  ·cases hc
 ·intro c' hc
  split at hc
  ·cases hc
  ·rename_i h1;simp only [kIn,Bool.or_false];exact Bool.eq_false_iff.2 fun hb=>h1 (Nat.eq_of_beq_eq_true hb)
theorem OCall.fresh1 {P:Program} {f:FuncId} {args:List AV} {r:AV} {m1:Nat × Option MO} {q:Nat} (h:OCall P f args (fun _=>(0,none)) r (memL [(q,m1)])) (c n:Nat) :
  OCAt P f (args.map (AV.ren (rnF q c n))) [] [(c,n)] (r.ren (rnF q c n)) [(c,(n+m1.1,m1.2.map (MO.ren (rnF q c n))))]:=by
 refine ocat_of (rnF q c n) (fun x=>if x=c then some (q,some n) else none) h ?_ ?_ ?_ ?_ ?_ ?_
 ·intro k c' s
  unfold rnF
  by_cases hk:k=q<;>by_cases hc:c'=c<;>simp [hk,hc]<;>(first|(intro e;exact absurd e.symm hc)|(intro e;exact absurd e.symm hk)|skip)
 ·intro k c' hk
  unfold rnF at hk
  split at hk<;>simp at hk
 ·intro k c' n' hk
  unfold rnF at hk
  split at hk
  ·simp at hk;obtain ⟨rfl,rfl⟩:=hk;simp
  ·cases hk
 ·intro k hk
  unfold rnF at hk
  split at hk
  ·cases hk
  ·rename_i h1;simp [memL,h1]
 ·intro c' k s hc
  split at hc
  ·rename_i h1;subst h1;simp at hc;obtain ⟨rfl,rfl⟩:=hc
   exact ⟨by simp [kIn],fun mem=>by simp [putsM,memL]⟩
  ·cases hc
 ·intro c' hc
  split at hc
  ·cases hc
  ·rename_i h1;simp only [kIn,Bool.or_false];exact Bool.eq_false_iff.2 fun hb=>h1 (Nat.eq_of_beq_eq_true hb)
theorem rows_get {α:Type} [Inhabited α] {f:α→List PVal} {l:List α} {i:Int} (h0:0≤i) (h:i < l.length):(l.map f)[i.toNat]?=some (f (l.getD i.toNat default)):=by
 have:i.toNat < l.length:=by omega
 rw [List.getElem?_map,List.getD_eq_getElem?_getD,List.getElem?_eq_getElem this];rfl
theorem u64_in {n:Int} (h:0≤n∧n < 18446744073709551616):IntKind.u64.wrap n=n:=by simp [IntKind.wrap,IntKind.bits,IntKind.signed];omega
theorem u32_in {n:Int} (h:0≤n∧n < 4294967296):IntKind.u32.wrap n=n:=by simp [IntKind.wrap,IntKind.bits,IntKind.signed];omega
theorem u16_in {n:Int} (h:0≤n∧n < 65536):IntKind.u16.wrap n=n:=by simp [IntKind.wrap,IntKind.bits,IntKind.signed];omega
theorem u8_in {n:Int} (h:0≤n∧n < 256):IntKind.u8.wrap n=n:=by simp [IntKind.wrap,IntKind.bits,IntKind.signed];omega
theorem lop_len_map {C:Ctx} {o:Oper} {σ:St} {T e:TypeId} {x:Operand} {sz by_:Nat} [hT:TI C.P T (.slice e) sz by_] {es:Nat} {α:Type} {l:List α} {f:α→List PVal} {ex:Bool} (ho:o.op=.call ⟨.builtin .len,#[x],#[T]⟩) (hx:σ.look x=.p (.sl es (l.map f) ex)) (hd:dOk C o.dst=true) :
  LOp C o σ ⟨.p (.v (.int .i64 l.length)),[]⟩ (fun _=>false):=by
 have:=lop_len_sl (o:=o) (hT:=hT) ho hx hd
 simpa using this
theorem lop_ix_sl {C:Ctx} {o:Oper} {σ:St} {T e:TypeId} {x ix:Operand} {sz by_:Nat} {ke:TK} {sze be:Nat} {rows:List (List PVal)} {ex:Bool} {k:IntKind} {i:Int} {row:List PVal}
  (ho:o.op=.indexAddr T x ix) (hT:TI C.P T (.slice e) sz by_) (he:TI C.P e ke sze be) (hx:σ.look x=.p (.sl sze rows ex)) (hi:σ.look ix=.p (.v (.int k i))) (h0:0≤i) (hb:rows[i.toNat]?=some row) (hd:dOk C o.dst=true):LOp C o σ ⟨.p (.at_ row),[]⟩ (fun _=>false):=lop_indexAddr_sl ho hx hi h0 hb hd
theorem lop_ld_at1 {C:Ctx} {o:Oper} {σ:St} {T:TypeId} {x:Operand} {k:TK} {sz by_:Nat} {row:List PVal} {p:PVal} (ho:o.op=.load T x) (hT:TI C.P T k sz by_) (hx:σ.look x=.p (.at_ row)) (hk:k.agg=false) (hs:sz=1) (hp:row[0]?=some p) (hd:dOk C o.dst=true):LOp C o σ ⟨.p p,[]⟩ (fun _=>false):=lop_load_at1 ho hx hk hs hp hd
section steps
variable {C:Ctx} {ops:Array Oper} {o:Oper} {rest:List Oper} {K:St→Prop} {σ:St} {e:Eff} {ro:Nat→Bool} {W:List (Nat × Nat)} {i:Nat}
theorem rk_wr {d:Nat} (hg:Guard ops σ o true) (hd':o.dst=some d) (hd:dOk C o.dst=true) (h:LOp C o σ e ro) (hro:∀ x,ro x=true→okObj ops W i x=true) (hob:∀ p∈e.obj,(i,p.1)∈W) (hk:RunK C ops W (i+1) rest K (e.app (some d) σ)):RunK C ops W i (o::rest) K σ:=by
 rw [← hd'] at hk;exact ⟨_,.inl ⟨hg,hd,ro,h,hro,fun x m hx=>hob (x,m) hx⟩,hk⟩
theorem ro_none {x:Nat}:(fun _:Nat=>false) x=true→okObj ops W i x=true:=fun h=>by cases h
theorem ro_one {c:Nat} (h:okObj ops W i c=true):∀ x,(fun y:Nat=>y == c) x=true→okObj ops W i x=true:=fun x hx=>by
 have:x=c:=by simpa using hx
 rw [this];exact h
theorem lop_oc1 {f:FuncId} {x0:Operand} {ts:Array TypeId} {a0 r:AV} {c n:Nat} {mo:MO} {pre:Prop} {upds:List (Nat × (Nat × Option MO))} (ho:o.op=.call ⟨.value (.func f),#[x0],ts⟩) (hfn:FnT C.P f) (h0:σ.look x0=a0) (hp:PtrIn [a0] c) (hm:σ.mem c=(n,some mo)) (hc:OC C.P f [a0] [(c,(n,some mo))] [] pre r upds) (hpre:pre) (hsub:kIn upds c=true) (hd:dOk C o.dst=true) :
  LOp C o σ ⟨r,upds⟩ (kIn upds):=
 lop_ocall ho hfn (.cons h0 (.nil)) (hc.call hpre) (fun p hp=>by simp at hp;subst hp;exact hm) (fun p hp=>by simp at hp) (fun p hp=>by simp at hp;subst hp;exact hsub) (fun p hp=>by simp at hp) hd
theorem lop_oc2 {f:FuncId} {x0 x1:Operand} {ts:Array TypeId} {a0 a1 r:AV} {c n:Nat} {mo:MO} {pre:Prop} {upds:List (Nat × (Nat × Option MO))} (ho:o.op=.call ⟨.value (.func f),#[x0,x1],ts⟩) (hfn:FnT C.P f) (h0:σ.look x0=a0) (h1:σ.look x1=a1) (hp:PtrIn [a0,a1] c) (hm:σ.mem c=(n,some mo)) (hc:OC C.P f [a0,a1] [(c,(n,some mo))] [] pre r upds) (hpre:pre) (hsub:kIn upds c=true) (hd:dOk C o.dst=true) :
  LOp C o σ ⟨r,upds⟩ (kIn upds):=
 lop_ocall ho hfn (.cons h0 (.cons h1 (.nil))) (hc.call hpre) (fun p hp=>by simp at hp;subst hp;exact hm) (fun p hp=>by simp at hp) (fun p hp=>by simp at hp;subst hp;exact hsub) (fun p hp=>by simp at hp) hd
theorem lop_of1 {f:FuncId} {x0:Operand} {ts:Array TypeId} {a0 r:AV} {d n:Nat} {mo0:Option MO} {pre:Prop} {upds:List (Nat × (Nat × Option MO))} (ho:o.op=.call ⟨.value (.func f),#[x0],ts⟩) (hfn:FnT C.P f) (hdst:o.dst=some d) (h0:σ.look x0=a0) (hm:σ.mem d=(n,mo0)) (hc:OC C.P f [a0] [] [(d,n)] pre r upds) (hpre:pre) (hsub:kIn upds d=true) (hd:dOk C o.dst=true) :
  LOp C o σ ⟨r,upds⟩ (kIn upds):=
 lop_ocall ho hfn (.cons h0 (.nil)) (hc.call hpre) (fun p hp=>by simp at hp) (fun p hp=>by simp at hp;subst hp;rw [hm]) (fun p hp=>by simp at hp) (fun p hp=>by simp at hp;subst hp;exact hsub) hd
theorem lop_of2 {f:FuncId} {x0 x1:Operand} {ts:Array TypeId} {a0 a1 r:AV} {d n:Nat} {mo0:Option MO} {pre:Prop} {upds:List (Nat × (Nat × Option MO))} (ho:o.op=.call ⟨.value (.func f),#[x0,x1],ts⟩) (hfn:FnT C.P f) (hdst:o.dst=some d) (h0:σ.look x0=a0) (h1:σ.look x1=a1) (hm:σ.mem d=(n,mo0)) (hc:OC C.P f [a0,a1] [] [(d,n)] pre r upds) (hpre:pre) (hsub:kIn upds d=true) (hd:dOk C o.dst=true) :
  LOp C o σ ⟨r,upds⟩ (kIn upds):=
 lop_ocall ho hfn (.cons h0 (.cons h1 (.nil))) (hc.call hpre) (fun p hp=>by simp at hp) (fun p hp=>by simp at hp;subst hp;rw [hm]) (fun p hp=>by simp at hp) (fun p hp=>by simp at hp;subst hp;exact hsub) hd
end steps
end Go.Aw
/- THE ABSTRACT WALK, part 13: slices whose rows are a list's, mapped. -/
namespace Go.Aw
open Go Go.RowKit
set_option linter.unusedVariables false
set_option linter.unusedSimpArgs false
theorem finC_map {σ:St} {K:Nat→Bool} {o g es len n ty:Nat} {α:Type} {l:List α} {f:α→List PVal} (hK:K o=false) (hm:σ.mem o=(n,some (.buf ty es (l.map f)))) (hn:n=g+1) (hl:len=l.length):FinC σ K (.osl o g es 0 len) (.p (.sl es (l.map f) false)):=by
 subst hn hl
 have:=FinC.osl (lo:=0) (len:=l.length) hK hm (by simp)
 rw [List.drop_zero,List.take_of_length_le (by simp)] at this
 exact this
theorem rs {α:Type} {l m:List α} {f:α→List PVal} {es:Nat} {ex:Bool} (h:l=m):AV.p (.sl es (l.map f) ex)=.s (.one (.p (.sl es (m.map f) ex))):=by rw [h]
theorem ocall_of1 {P:Program} {f:FuncId} {fn:Func} {body:Code} {args:List AV} {r:AV} {m0 m1:Nat × Option MO} (hf:P.funcs[f]?=some fn) (hb:fn.body=some body)
  (h:∀ w0 F S0 M0,AWs ⟨P,w0,F,S0,max args.length fn.ntmps,none,M0⟩ [body] (RetO P fn r (kIn [(1000,m1)]) (memL [(1000,m1)])) ⟨fun t=>args.getD t .un,memL [(1000,m0)]⟩):OCall P f args (memL [(1000,m0)]) r (memL [(1000,m1)]):=by
 refine ocall_of (kIn [(1000,m1)]) hf hb (fun o ho=>?_) h
 simp only [kIn,Bool.or_false] at ho
 have hk:o≠1000:=fun e=>by rw [e] at ho;simp at ho
 simp [memL,hk]
theorem ocall_ofF (q:Nat) {P:Program} {f:FuncId} {fn:Func} {body:Code} {args:List AV} {r:AV} {m1:Nat × Option MO} (hf:P.funcs[f]?=some fn) (hb:fn.body=some body)
  (h:∀ w0 F S0 M0,AWs ⟨P,w0,F,S0,max args.length fn.ntmps,none,M0⟩ [body] (RetO P fn r (kIn [(q,m1)]) (memL [(q,m1)])) ⟨fun t=>args.getD t .un,fun _=>(0,none)⟩):OCall P f args (fun _=>(0,none)) r (memL [(q,m1)]):=
 ocall_of (kIn [(q,m1)]) hf hb (fun o ho=>rfl) h
def PVal.qb (q:Prop):PVal:=⟨fun _ v=>∃ b,v=.bool b∧(b=true→q),fun _ h=>h,fun h=>by obtain ⟨b,rfl,_⟩:=h;rfl⟩
theorem aws_if_qb {C:Ctx} {σ:St} {cd:Operand} {x y:Code} {k:List Code} {Q:Exit→St→Prop} {q:Prop} (hv:σ.look cd=.p (.qb q)) (h1:q→AWs C (x::k) Q σ) (h2:True→AWs C (y::k) Q σ):AWs C (.cond cd x y::k) Q σ:=by
 intro a w hr
 obtain ⟨G,hG⟩:=hr
 obtain ⟨b,hb,hq⟩:=look_of hG hv
 refine wpIn_cond_split hb (fun h=>?_) (fun h=>?_)
 ·exact h1 (hq h) a w ⟨G,hG⟩
 ·exact h2 trivial a w ⟨G,hG⟩
theorem lop_sl_eqnil {C:Ctx} {o:Oper} {σ:St} {t e t':TypeId} {x y:Operand} {sz by_ es:Nat} {rows:List (List PVal)} {ex:Bool} (ho:o.op=.binOp .eql t x y t') (hT:TI C.P t (.slice e) sz by_) (hx:σ.look x=.p (.sl es rows ex)) (hy:σ.look y=.p (.v (.slice none 0 0))) (hd:dOk C o.dst=true) :
  LOp C o σ ⟨.p (.qb (rows=[])),[]⟩ (fun _=>false):=
 lop_val hd fun τ a w G hl hm h=>by
  obtain ⟨bs,cap,p1,p2,p3,p4,p5⟩:=look_of h ((hl x (by simp [ho,Op.operands])).trans hx)
  have e2:=val_of h ((hl y (by simp [ho,Op.operands])).trans hy)
  obtain ⟨d,hdd,hk⟩:=hT.undd
  have:d=.slice e:=by cases d<;>simp [TK.of] at hk;rw [hk]
  subst this
  refine ⟨.bool bs.isNone,?_,bs.isNone,rfl,fun hb=>?_⟩
  ·have hg:(eqGuard .eql t x y (.slice bs rows.length cap) (.slice none 0 0)).run C.P w=.ok () w:=by
    unfold eqGuard;simp [pure]
   have hr:(binOp .eql t (.slice bs rows.length cap) (.slice none 0 0)).run C.P w=.ok (.bool bs.isNone) w:=by
    exact Go.Lib.run_eql_slice_nil w t e bs rows.length cap 0 0 hdd
   simp only [execOp,ho,p1,e2,Sem.run_bind,hg,Result.andThen_ok,hr,Sem.run_pure]
  ·cases bs with
   | none=>exact p5.1
   | some b=>simp at hb
section ops
variable {C:Ctx} {o:Oper} {σ:St} {T e:TypeId} {sz by_ es be:Nat} {ke:TK} {α:Type} {f:α→List PVal} {l m:List α} {ex:Bool} {x y xl xh xm:Operand} {kl kh km:IntKind} {lo hi mx:Int}
theorem lop_sl_l (ho:o.op=.slice T x (some xl) none none) (hT:TI C.P T (.slice e) sz by_) (he:TI C.P e ke es be) (hx:σ.look x=.p (.sl es (l.map f) ex)) (hlo:σ.look xl=.p (.v (.int kl lo))) (h0:0≤lo) (h1:lo≤l.length) (hd:dOk C o.dst=true) :
  LOp C o σ ⟨.p (.sl es ((l.drop lo.toNat).map f) ex),[]⟩ (fun _=>false):=by
 have:=lop_slice_l (o:=o) ho hx hlo h0 (by simpa using h1) hd
 rwa [← List.map_drop] at this
theorem lop_ap_e0 {z:List Value} {ey:Bool} {rows:List (List PVal)} (ho:o.op=.call ⟨.builtin .append,#[x,y],#[T,T]⟩) (hT:TI C.P T (.slice e) sz by_) (he:TI C.P e ke es be) (hz:TZ C.P e z) (hx:σ.look x=.p (.sl es [] true)) (hy:σ.look y=.p (.sl es rows ey))
  (hzl:z.length=es) (h63:rows.length≤maxLen) (hby:rows.length * be≤140737488355328) (hd:dOk C o.dst=true) :
  LOp C o σ ⟨.p (.sl es rows false),[]⟩ (fun _=>false):=by
 have:=lop_append_ex (o:=o) ho hx (src_sl hy) hzl (by simpa using h63) (by simpa using hby) hd
 simpa using this
theorem lop_ap_o1 {z:List Value} {ey:Bool} {ob g n len:Nat} {v:α} {row:List PVal} (ho:o.op=.call ⟨.builtin .append,#[x,y],#[T,T]⟩) (hT:TI C.P T (.slice e) sz by_) (he:TI C.P e ke es be) (hz:TZ C.P e z) (hx:σ.look x=.o (.osl ob g es 0 len)) (hm:σ.mem ob=(n,some (.buf e es (l.map f)))) (hn:n=g+1) (hlr:len=l.length)
  (hy:σ.look y=.p (.sl es [row] ey)) (hrow:row=f v) (hzl:z.length=es) (h63:l.length+1≤maxLen) (hby:(l.length+1) * be≤140737488355328) (hd:dOk C o.dst=true) :
  LOp C o σ ⟨.o (.osl ob n es 0 (l++[v]).length),[(ob,(n+1,some (.buf e es ((l++[v]).map f))))]⟩ (fun q=>q == ob):=by
 subst hrow
 have:=lop_append_osl (o:=o) ho hx hm hn (by simpa using hlr) (src_sl hy) hzl (by simpa using h63) (by simpa using hby) hd
 simpa using this
theorem lop_ap_on {z:List Value} {ey:Bool} {ob g n len:Nat} (ho:o.op=.call ⟨.builtin .append,#[x,y],#[T,T]⟩) (hT:TI C.P T (.slice e) sz by_) (he:TI C.P e ke es be) (hz:TZ C.P e z) (hx:σ.look x=.o (.osl ob g es 0 len)) (hm:σ.mem ob=(n,some (.buf e es (l.map f)))) (hn:n=g+1) (hlr:len=l.length)
  (hy:σ.look y=.p (.sl es (m.map f) ey)) (hzl:z.length=es) (h63:l.length+m.length≤maxLen) (hby:(l.length+m.length) * be≤140737488355328) (hd:dOk C o.dst=true) :
  LOp C o σ ⟨.o (.osl ob n es 0 (l++m).length),[(ob,(n+1,some (.buf e es ((l++m).map f))))]⟩ (fun q=>q == ob):=by
 have:=lop_append_osl (o:=o) ho hx hm hn (by simpa using hlr) (src_sl hy) hzl (by simpa using h63) (by simpa using hby) hd
 simpa using this
theorem lop_bs0 {z:List Value} (ho:o.op=.buildSlice T 0 #[]) (hT:TI C.P T (.slice e) sz by_) (he:TI C.P e ke es be) (hz:TZ C.P e z) (hes1:es=1)  (hd:dOk C o.dst=true):LOp C o σ ⟨.p (.sl es [] true),[]⟩ (fun _=>false):=by
 subst hes1
 exact lop_buildSlice (ps:=[]) ho (.nil) rfl (by decide) (by decide) hd
theorem lop_bs1 {z:List Value} {x0:Operand} {p0:PVal} (ho:o.op=.buildSlice T 1 #[(0,x0)]) (hT:TI C.P T (.slice e) sz by_) (he:TI C.P e ke es be) (hz:TZ C.P e z) (hes1:es=1) (h0:σ.look x0=.p p0) (hd:dOk C o.dst=true):LOp C o σ ⟨.p (.sl es [[p0]] true),[]⟩ (fun _=>false):=by
 subst hes1
 exact lop_buildSlice (ps:=[(0,[p0])]) ho (.cons ⟨rfl,rfl,_,h0,rfl⟩ (.nil)) rfl (by decide) (by decide) hd
theorem lop_bs2 {z:List Value} {x0 x1:Operand} {p0 p1:PVal} (ho:o.op=.buildSlice T 2 #[(0,x0),(1,x1)]) (hT:TI C.P T (.slice e) sz by_) (he:TI C.P e ke es be) (hz:TZ C.P e z) (hes1:es=1) (h0:σ.look x0=.p p0) (h1:σ.look x1=.p p1) (hd:dOk C o.dst=true):LOp C o σ ⟨.p (.sl es [[p0],[p1]] true),[]⟩ (fun _=>false):=by
 subst hes1
 exact lop_buildSlice (ps:=[(0,[p0]),(1,[p1])]) ho (.cons ⟨rfl,rfl,_,h0,rfl⟩ (.cons ⟨rfl,rfl,_,h1,rfl⟩ (.nil))) rfl (by decide) (by decide) hd
theorem lop_bs4 {z:List Value} {x0 x1 x2 x3:Operand} {p0 p1 p2 p3:PVal} (ho:o.op=.buildSlice T 4 #[(0,x0),(1,x1),(2,x2),(3,x3)]) (hT:TI C.P T (.slice e) sz by_) (he:TI C.P e ke es be) (hz:TZ C.P e z) (hes1:es=1) (h0:σ.look x0=.p p0) (h1:σ.look x1=.p p1) (h2:σ.look x2=.p p2) (h3:σ.look x3=.p p3) (hd:dOk C o.dst=true):LOp C o σ ⟨.p (.sl es [[p0],[p1],[p2],[p3]] true),[]⟩ (fun _=>false):=by
 subst hes1
 exact lop_buildSlice (ps:=[(0,[p0]),(1,[p1]),(2,[p2]),(3,[p3])]) ho (.cons ⟨rfl,rfl,_,h0,rfl⟩ (.cons ⟨rfl,rfl,_,h1,rfl⟩ (.cons ⟨rfl,rfl,_,h2,rfl⟩ (.cons ⟨rfl,rfl,_,h3,rfl⟩ (.nil))))) rfl (by decide) (by decide) hd
end ops
theorem lk_m1 {σ:St} {x:Operand} {k:IntKind} {ex:Bool} {n0:Int} (h:σ.look x=.p (.sl 1 [[PVal.v (.int k n0)]] ex)):σ.look x=.p (.sl 1 (([n0]:List Int).map fun n=>[PVal.v (.int k n)]) ex):=h
theorem lk_m2 {σ:St} {x:Operand} {k:IntKind} {ex:Bool} {n0 n1:Int} (h:σ.look x=.p (.sl 1 [[PVal.v (.int k n0)],[PVal.v (.int k n1)]] ex)):σ.look x=.p (.sl 1 (([n0,n1]:List Int).map fun n=>[PVal.v (.int k n)]) ex):=h
end Go.Aw
/- THE ABSTRACT WALK, part 15: own slices whose rows are mapped; the steps of a walk, each under one name. Nothing here speaks of a program. -/
namespace Go.Aw
open Go Go.RowKit
set_option linter.unusedVariables false
set_option linter.unusedSimpArgs false
variable {C:Ctx} {o:Oper} {σ:St}
section ops
theorem map_get {α:Type} [Inhabited α] {f:α→List PVal} {l:List α} {i:Nat} (h:i < l.length):(l.map f)[i]?=some (f (l.getD i default)):=by
 simp [List.getD_eq_getElem?_getD,h]
theorem lop_ix_b {α:Type} {f:α→List PVal} {l:List α} {T e:TypeId} {x ix:Operand} {sz by_:Nat} {ke:TK} {sze be:Nat} {ob g n len ty:Nat} {k:IntKind} {i:Int}
  (ho:o.op=.indexAddr T x ix) (hT:TI C.P T (.slice e) sz by_) (he:TI C.P e ke sze be) (hx:σ.look x=.o (.osl ob g sze 0 len)) (hm:σ.mem ob=(n,some (.buf ty sze (l.map f)))) (hn:n=g+1) (hi:σ.look ix=.p (.v (.int k i))) (hl:len≤l.length) (h0:0≤i) (hb:i < len) (hd:dOk C o.dst=true) :
  LOp C o σ ⟨.o (.ptr ob g (i.toNat * sze)),[]⟩ (fun y=>y == ob):=lop_indexAddr_osl ho hx hm hn (by simpa using hl) hi h0 hb hd
end ops
def Ent1 (a b:AV):Prop:=∀ μ X v,a.holds μ X v→b.holds μ X v
theorem Ent1.refl {a:AV}:Ent1 a a:=fun _ _ _ h=>h
abbrev nilA:AV:=.p (.v (.slice none 0 0))
theorem Ent1.nil {es:Nat} {ex:Bool}:Ent1 nilA (.p (.sl es [] ex)):=by
 rintro μ X v ⟨rfl,_⟩
 exact ⟨none,0,rfl,Nat.le_refl _,by simp [maxLen],fun _=>rfl,rfl,rfl⟩
theorem Ent1.ex {es:Nat} {rows:List (List PVal)} {ex:Bool}:Ent1 (.p (.sl es rows ex)) (.p (.sl es rows false)):=by
 rintro μ X v ⟨base,cap,h1,h2,h3,h4,h5⟩
 exact ⟨base,cap,h1,h2,h3,by simp,h5⟩
theorem ent_holds {μ:Mu} {X:Wd} {as bs:List AV} {vs:List Value} (hE:All2 Ent1 as bs) (h:All2 (AV.holds μ X) as vs):All2 (AV.holds μ X) bs vs:=by
 refine ⟨hE.1.symm.trans h.1,fun i b v hb hv=>?_⟩
 have hi:i < as.length:=by rw [hE.1];exact (List.getElem?_eq_some_iff.1 hb).1
 have ha:as[i]?=some as[i]:=by simp [hi]
 exact hE.2 i _ b ha hb _ _ _ (h.2 i _ v ha hv)
theorem PCall.ent {P:Program} {f:FuncId} {as bs:List AV} {r:AV} (h:PCall P f bs r) (hE:All2 Ent1 as bs):PCall P f as r:=fun w S vs hS ha=>h w S vs hS (ent_holds hE ha)
theorem OCAt.ent {P:Program} {f:FuncId} {as bs:List AV} {lent upds:List (Nat × (Nat × Option MO))} {fresh:List (Nat × Nat)} {r:AV} (h:OCAt P f bs lent fresh r upds) (hE:All2 Ent1 as bs):OCAt P f as lent fresh r upds:=
 fun w G mem vs h1 h2 h3 ha=>h w G mem vs h1 h2 h3 (ent_holds hE ha)
theorem memb_mem:∀ {W:List Nat} {t:Nat},memb W t=true→t∈W
 | [],t,h=>by simp [memb] at h
 | k::W,t,h=>by
  simp only [memb,Bool.or_eq_true] at h
  rcases h with h|h
  ·simp [Nat.eq_of_beq_eq_true h]
  ·simp [memb_mem h]
theorem memb_sub {W W':List Nat} (h:W'.all (memb W)=true):∀ t,memb W' t=true→memb W t=true:=fun t ht=>List.all_eq_true.1 h t (memb_mem ht)
/-! ### Ghost steps at a round's end -/
theorem Says.refl {C:Ctx} {σ:St}:Says C σ σ:=fun _ _ h=>h
theorem Says.trans {C:Ctx} {σ τ υ:St} (h:Says C σ τ) (k:Says C τ υ):Says C σ υ:=fun a w hr=>k a w (h a w hr)
theorem aw_says {C:Ctx} {σ τ:St} {c:Code} {Q:Exit→St→Prop} (h:Says C σ τ) (hk:AW C c Q τ):AW C c Q σ:=fun a w hr=>hk a w (h a w hr)
theorem aws_loopS {ι:Type} {C:Ctx} {Q:Exit→St→Prop} {σ:St} {c:Code} {k:List Code} {id:Nat} (W M:List Nat) (e:ι→List (Nat × AV)) (m:ι→List (Nat × (Nat × Option MO))) (P:ι→Prop) (μ:ι→Nat) (i₀:ι)
  (h₀:P i₀) (he:Knows σ.env (e i₀)) (hm:Knows σ.mem (m i₀))
  (round:∀ i β γ,P i→AWs C [c] (fun x s'=>match x with | .normal=>∃ j τ,μ j < μ i∧P j∧Says C s' τ∧Fr' σ W (e j) M (m j) τ|x=>blk id (AWs C k Q) Q x s') (σ.fr W β (e i) M γ (m i))):AWs C (.block id (.loop c)::k) Q σ:=
 aws_loop (fun i s=>∃ τ,Says C s τ∧P i∧Fr' σ W (e i) M (m i) τ) μ i₀ ⟨σ,.refl,h₀,.mk .refl he hm⟩ fun i s ⟨τ,hs,hP,β,γ,ht⟩=>by
  subst ht
  refine aws_mono (Q:=fun x s'=>match x with | .normal=>∃ j τ,μ j < μ i∧P j∧Says C s' τ∧Fr' σ W (e j) M (m j) τ|x=>blk id (AWs C k Q) Q x s') (fun x s' hq=>?_) (aws_says hs (round i β γ hP))
  cases x with
  | normal=>obtain ⟨j,τ,h1,h2,h3,h4⟩:=hq;exact ⟨j,h1,τ,h3,h2,h4⟩
  | _=>exact hq
theorem hqs:(∀ (p:Prop) [Decidable p],(decide p=true)=p)∧(∀ (p:Prop) [Decidable p],(decide p=false)=¬ p)∧(∀ b:Bool,((!b)=true)=(b=false))∧(∀ b:Bool,((!b)=false)=(b=true))∧
  (∀ a b:Bool,((a&&b)=true)=(a=true∧b=true))∧(∀ a b:Bool,((a||b)=true)=(a=true∨b=true))∧(∀ a b:Bool,((a&&b)=false)=(a=false∨b=false))∧(∀ a b:Bool,((a||b)=false)=(a=false∧b=false))∧
  (∀ {α:Type} (a b:α),(a≠b)=¬ a=b)∧(∀ (p:Prop) [Decidable p],(¬ ¬ p)=p)∧((false=true)=False)∧((true=false)=False)∧((¬ True)=False)∧((¬ False)=True):=by
 refine ⟨fun p _=>by simp,fun p _=>by simp,fun b=>by simp,fun b=>by simp,fun a b=>by simp,fun a b=>by simp,fun a b=>by cases a<;>simp,fun a b=>by simp,fun a b=>rfl,fun p _=>by simp [Decidable.not_not],by simp,by simp,by simp,by simp⟩
theorem ob_none {Q:Nat × (Nat × Option MO)→Prop}:∀ p∈([]:List (Nat × (Nat × Option MO))),Q p:=by simp
theorem ob_one {W:List (Nat × Nat)} {i x:Nat} {m:Nat × Option MO} (h:(i,x)∈W):∀ p∈[(x,m)],(i,p.1)∈W:=fun p hp=>by simp at hp;subst hp;exact h
/-! ### Which operation it is -/
section kinds
variable {C:Ctx} {o:Oper} {σ:St} {e:Eff} {ro:Nat→Bool}
theorem gMove {x:Operand} (ho:o.op=.move x) (h:LOp C o σ e ro):LOp C o σ e ro:=h
theorem gAssign {x:Operand} (ho:o.op=.assign x) (h:LOp C o σ e ro):LOp C o σ e ro:=h
theorem gLoad {T:TypeId} {x:Operand} (ho:o.op=.load T x) (h:LOp C o σ e ro):LOp C o σ e ro:=h
theorem gPick {x y z:Operand} (ho:o.op=.pick x y z) (h:LOp C o σ e ro):LOp C o σ e ro:=h
theorem gCallF {f:FuncId} {as:Array Operand} {ts:Array TypeId} (ho:o.op=.call ⟨.value (.func f),as,ts⟩) (h:LOp C o σ e ro):LOp C o σ e ro:=h
theorem gCallB {b:Builtin} {as:Array Operand} {ts:Array TypeId} (ho:o.op=.call ⟨.builtin b,as,ts⟩) (h:LOp C o σ e ro):LOp C o σ e ro:=h
theorem gIndex {T:TypeId} {x y:Operand} (ho:o.op=.indexAddr T x y) (h:LOp C o σ e ro):LOp C o σ e ro:=h
theorem gField {T:TypeId} {x:Operand} {n:Nat} (ho:o.op=.fieldAddr T x n) (h:LOp C o σ e ro):LOp C o σ e ro:=h
theorem gBin {b:BinOp} {T T':TypeId} {x y:Operand} (ho:o.op=.binOp b T x y T') (h:LOp C o σ e ro):LOp C o σ e ro:=h
theorem gExtract {x:Operand} {n:Nat} (ho:o.op=.extract x n) (h:LOp C o σ e ro):LOp C o σ e ro:=h
theorem gSlice {T:TypeId} {x:Operand} {l h m:Option Operand} (ho:o.op=.slice T x l h m) (h:LOp C o σ e ro):LOp C o σ e ro:=h
end kinds
/-! ### One step under one name -/
theorem lopA {C:Ctx} {o:Oper} {σ:St} {e:Eff} {ro:Nat→Bool} (h:LOp C o σ e ro:=by
  first
     | (apply gMove;(focus rfl);first|exact lop_move_o rfl rfl rfl|exact lop_move_t rfl rfl rfl|exact lop_move_u rfl rfl)
     | (apply gAssign;(focus rfl);first|exact lop_assign_o rfl rfl rfl|exact lop_assign_a rfl rfl rfl)
     | (apply gLoad;(focus rfl);first|exact lop_load_one rfl rfl rfl rfl rfl rfl rfl rfl|exact lop_load_all rfl rfl rfl rfl rfl rfl rfl|exact lop_load_all rfl rfl rfl rfl rfl (by first|(rw [List.length_map];assumption)|(simp [*];done)) rfl|(apply lop_ld_at1;(focus rfl);(focus exact inferInstance);(focus rfl);(focus rfl);(focus rfl);(focus rfl);(focus rfl))|(apply lop_ld_arr;(focus rfl);(focus exact inferInstance);(focus rfl);(focus rfl);(focus rfl);(focus rfl);(focus rfl);(focus omega);(focus rfl);(focus rfl);(focus exact inferInstance))|(apply lop_ld_bx;(focus rfl);(focus exact inferInstance);(focus rfl);(focus rfl);(focus rfl);(focus rfl);(focus rfl))|(apply lop_ld_fbx;(focus rfl);(focus exact inferInstance);(focus rfl);(focus rfl);(focus rfl);(focus rfl);(focus rfl);(focus rfl);(focus rfl)))
     | (apply gPick;(focus rfl);first|exact lop_pick_t' rfl rfl rfl rfl rfl|exact lop_pick_f' rfl rfl rfl rfl rfl|exact lop_pick_t' rfl rfl (by assumption) rfl rfl|exact lop_pick_f' rfl rfl (by assumption) rfl rfl)
     | (apply gCallF;(focus rfl);first|(apply lop_call1;(focus rfl);(focus exact inferInstance);(focus first|exact lk_m1 rfl|exact lk_m2 rfl|exact lk_m3 rfl|exact lk_o rfl|exact lk_a2 rfl|exact lk_a3 rfl|exact lk_a4 rfl|exact lk_a1 rfl|exact lk_a5 rfl|exact lk_a6 rfl|exact lk_a7 rfl|exact lk_a8 rfl|exact lk_a rfl);(focus exact inferInstance);(focus exact inferInstance);(focus first|exact True.intro|assumption|omega|(repeat' (first|assumption|refine And.intro ?_ ?_|omega|decide)));(focus rfl))|(apply lop_call2;(focus rfl);(focus exact inferInstance);(focus first|exact lk_m1 rfl|exact lk_m2 rfl|exact lk_m3 rfl|exact lk_o rfl|exact lk_a2 rfl|exact lk_a3 rfl|exact lk_a4 rfl|exact lk_a1 rfl|exact lk_a5 rfl|exact lk_a6 rfl|exact lk_a7 rfl|exact lk_a8 rfl|exact lk_a rfl);(focus first|exact lk_m1 rfl|exact lk_m2 rfl|exact lk_m3 rfl|exact lk_o rfl|exact lk_a2 rfl|exact lk_a3 rfl|exact lk_a4 rfl|exact lk_a1 rfl|exact lk_a5 rfl|exact lk_a6 rfl|exact lk_a7 rfl|exact lk_a8 rfl|exact lk_a rfl);(focus exact inferInstance);(focus exact inferInstance);(focus first|exact True.intro|assumption|omega|(repeat' (first|assumption|refine And.intro ?_ ?_|omega|decide)));(focus rfl))|(apply lop_call3;(focus rfl);(focus exact inferInstance);(focus first|exact lk_m1 rfl|exact lk_m2 rfl|exact lk_m3 rfl|exact lk_o rfl|exact lk_a2 rfl|exact lk_a3 rfl|exact lk_a4 rfl|exact lk_a1 rfl|exact lk_a5 rfl|exact lk_a6 rfl|exact lk_a7 rfl|exact lk_a8 rfl|exact lk_a rfl);(focus first|exact lk_m1 rfl|exact lk_m2 rfl|exact lk_m3 rfl|exact lk_o rfl|exact lk_a2 rfl|exact lk_a3 rfl|exact lk_a4 rfl|exact lk_a1 rfl|exact lk_a5 rfl|exact lk_a6 rfl|exact lk_a7 rfl|exact lk_a8 rfl|exact lk_a rfl);(focus first|exact lk_m1 rfl|exact lk_m2 rfl|exact lk_m3 rfl|exact lk_o rfl|exact lk_a2 rfl|exact lk_a3 rfl|exact lk_a4 rfl|exact lk_a1 rfl|exact lk_a5 rfl|exact lk_a6 rfl|exact lk_a7 rfl|exact lk_a8 rfl|exact lk_a rfl);(focus exact inferInstance);(focus exact inferInstance);(focus first|exact True.intro|assumption|omega|(repeat' (first|assumption|refine And.intro ?_ ?_|omega|decide)));(focus rfl))|(apply lop_call0;(focus rfl);(focus exact inferInstance);(focus exact inferInstance);(focus exact inferInstance);(focus first|exact True.intro|assumption|omega|(repeat' (first|assumption|refine And.intro ?_ ?_|omega|decide)));(focus rfl))|(apply lop_call4;(focus rfl);(focus exact inferInstance);(focus first|exact lk_m1 rfl|exact lk_m2 rfl|exact lk_m3 rfl|exact lk_o rfl|exact lk_a2 rfl|exact lk_a3 rfl|exact lk_a4 rfl|exact lk_a1 rfl|exact lk_a5 rfl|exact lk_a6 rfl|exact lk_a7 rfl|exact lk_a8 rfl|exact lk_a rfl);(focus first|exact lk_m1 rfl|exact lk_m2 rfl|exact lk_m3 rfl|exact lk_o rfl|exact lk_a2 rfl|exact lk_a3 rfl|exact lk_a4 rfl|exact lk_a1 rfl|exact lk_a5 rfl|exact lk_a6 rfl|exact lk_a7 rfl|exact lk_a8 rfl|exact lk_a rfl);(focus first|exact lk_m1 rfl|exact lk_m2 rfl|exact lk_m3 rfl|exact lk_o rfl|exact lk_a2 rfl|exact lk_a3 rfl|exact lk_a4 rfl|exact lk_a1 rfl|exact lk_a5 rfl|exact lk_a6 rfl|exact lk_a7 rfl|exact lk_a8 rfl|exact lk_a rfl);(focus first|exact lk_m1 rfl|exact lk_m2 rfl|exact lk_m3 rfl|exact lk_o rfl|exact lk_a2 rfl|exact lk_a3 rfl|exact lk_a4 rfl|exact lk_a1 rfl|exact lk_a5 rfl|exact lk_a6 rfl|exact lk_a7 rfl|exact lk_a8 rfl|exact lk_a rfl);(focus exact inferInstance);(focus exact inferInstance);(focus first|exact True.intro|assumption|omega|(repeat' (first|assumption|refine And.intro ?_ ?_|omega|decide)));(focus rfl))|(apply lop_oc1;(focus rfl);(focus exact inferInstance);(focus first|exact lk_m1 rfl|exact lk_m2 rfl|exact lk_m3 rfl|exact lk_o rfl|exact lk_a2 rfl|exact lk_a3 rfl|exact lk_a4 rfl|exact lk_a1 rfl|exact lk_a5 rfl|exact lk_a6 rfl|exact lk_a7 rfl|exact lk_a8 rfl|exact lk_a rfl);(focus exact inferInstance);(focus rfl);(focus exact inferInstance);(focus first|exact True.intro|assumption|omega|(repeat' (first|assumption|refine And.intro ?_ ?_|omega|decide)));(focus rfl);(focus rfl))|(apply lop_oc2;(focus rfl);(focus exact inferInstance);(focus first|exact lk_m1 rfl|exact lk_m2 rfl|exact lk_m3 rfl|exact lk_o rfl|exact lk_a2 rfl|exact lk_a3 rfl|exact lk_a4 rfl|exact lk_a1 rfl|exact lk_a5 rfl|exact lk_a6 rfl|exact lk_a7 rfl|exact lk_a8 rfl|exact lk_a rfl);(focus first|exact lk_m1 rfl|exact lk_m2 rfl|exact lk_m3 rfl|exact lk_o rfl|exact lk_a2 rfl|exact lk_a3 rfl|exact lk_a4 rfl|exact lk_a1 rfl|exact lk_a5 rfl|exact lk_a6 rfl|exact lk_a7 rfl|exact lk_a8 rfl|exact lk_a rfl);(focus exact inferInstance);(focus rfl);(focus exact inferInstance);(focus first|exact True.intro|assumption|omega|(repeat' (first|assumption|refine And.intro ?_ ?_|omega|decide)));(focus rfl);(focus rfl))|(apply lop_oc3;(focus rfl);(focus exact inferInstance);(focus first|exact lk_m1 rfl|exact lk_m2 rfl|exact lk_m3 rfl|exact lk_o rfl|exact lk_a2 rfl|exact lk_a3 rfl|exact lk_a4 rfl|exact lk_a1 rfl|exact lk_a5 rfl|exact lk_a6 rfl|exact lk_a7 rfl|exact lk_a8 rfl|exact lk_a rfl);(focus first|exact lk_m1 rfl|exact lk_m2 rfl|exact lk_m3 rfl|exact lk_o rfl|exact lk_a2 rfl|exact lk_a3 rfl|exact lk_a4 rfl|exact lk_a1 rfl|exact lk_a5 rfl|exact lk_a6 rfl|exact lk_a7 rfl|exact lk_a8 rfl|exact lk_a rfl);(focus first|exact lk_m1 rfl|exact lk_m2 rfl|exact lk_m3 rfl|exact lk_o rfl|exact lk_a2 rfl|exact lk_a3 rfl|exact lk_a4 rfl|exact lk_a1 rfl|exact lk_a5 rfl|exact lk_a6 rfl|exact lk_a7 rfl|exact lk_a8 rfl|exact lk_a rfl);(focus exact inferInstance);(focus rfl);(focus exact inferInstance);(focus first|exact True.intro|assumption|omega|(repeat' (first|assumption|refine And.intro ?_ ?_|omega|decide)));(focus rfl);(focus rfl))|(apply lop_oc4;(focus rfl);(focus exact inferInstance);(focus first|exact lk_m1 rfl|exact lk_m2 rfl|exact lk_m3 rfl|exact lk_o rfl|exact lk_a2 rfl|exact lk_a3 rfl|exact lk_a4 rfl|exact lk_a1 rfl|exact lk_a5 rfl|exact lk_a6 rfl|exact lk_a7 rfl|exact lk_a8 rfl|exact lk_a rfl);(focus first|exact lk_m1 rfl|exact lk_m2 rfl|exact lk_m3 rfl|exact lk_o rfl|exact lk_a2 rfl|exact lk_a3 rfl|exact lk_a4 rfl|exact lk_a1 rfl|exact lk_a5 rfl|exact lk_a6 rfl|exact lk_a7 rfl|exact lk_a8 rfl|exact lk_a rfl);(focus first|exact lk_m1 rfl|exact lk_m2 rfl|exact lk_m3 rfl|exact lk_o rfl|exact lk_a2 rfl|exact lk_a3 rfl|exact lk_a4 rfl|exact lk_a1 rfl|exact lk_a5 rfl|exact lk_a6 rfl|exact lk_a7 rfl|exact lk_a8 rfl|exact lk_a rfl);(focus first|exact lk_m1 rfl|exact lk_m2 rfl|exact lk_m3 rfl|exact lk_o rfl|exact lk_a2 rfl|exact lk_a3 rfl|exact lk_a4 rfl|exact lk_a1 rfl|exact lk_a5 rfl|exact lk_a6 rfl|exact lk_a7 rfl|exact lk_a8 rfl|exact lk_a rfl);(focus exact inferInstance);(focus rfl);(focus exact inferInstance);(focus first|exact True.intro|assumption|omega|(repeat' (first|assumption|refine And.intro ?_ ?_|omega|decide)));(focus rfl);(focus rfl))|(apply lop_of0;(focus rfl);(focus exact inferInstance);(focus rfl);(focus rfl);(focus exact inferInstance);(focus first|exact True.intro|assumption|omega|(repeat' (first|assumption|refine And.intro ?_ ?_|omega|decide)));(focus rfl);(focus rfl))|(apply lop_of1;(focus rfl);(focus exact inferInstance);(focus rfl);(focus first|exact lk_m1 rfl|exact lk_m2 rfl|exact lk_m3 rfl|exact lk_o rfl|exact lk_a2 rfl|exact lk_a3 rfl|exact lk_a4 rfl|exact lk_a1 rfl|exact lk_a5 rfl|exact lk_a6 rfl|exact lk_a7 rfl|exact lk_a8 rfl|exact lk_a rfl);(focus rfl);(focus exact inferInstance);(focus first|exact True.intro|assumption|omega|(repeat' (first|assumption|refine And.intro ?_ ?_|omega|decide)));(focus rfl);(focus rfl))|(apply lop_of2;(focus rfl);(focus exact inferInstance);(focus rfl);(focus first|exact lk_m1 rfl|exact lk_m2 rfl|exact lk_m3 rfl|exact lk_o rfl|exact lk_a2 rfl|exact lk_a3 rfl|exact lk_a4 rfl|exact lk_a1 rfl|exact lk_a5 rfl|exact lk_a6 rfl|exact lk_a7 rfl|exact lk_a8 rfl|exact lk_a rfl);(focus first|exact lk_m1 rfl|exact lk_m2 rfl|exact lk_m3 rfl|exact lk_o rfl|exact lk_a2 rfl|exact lk_a3 rfl|exact lk_a4 rfl|exact lk_a1 rfl|exact lk_a5 rfl|exact lk_a6 rfl|exact lk_a7 rfl|exact lk_a8 rfl|exact lk_a rfl);(focus rfl);(focus exact inferInstance);(focus first|exact True.intro|assumption|omega|(repeat' (first|assumption|refine And.intro ?_ ?_|omega|decide)));(focus rfl);(focus rfl))|(apply lop_of3;(focus rfl);(focus exact inferInstance);(focus rfl);(focus first|exact lk_m1 rfl|exact lk_m2 rfl|exact lk_m3 rfl|exact lk_o rfl|exact lk_a2 rfl|exact lk_a3 rfl|exact lk_a4 rfl|exact lk_a1 rfl|exact lk_a5 rfl|exact lk_a6 rfl|exact lk_a7 rfl|exact lk_a8 rfl|exact lk_a rfl);(focus first|exact lk_m1 rfl|exact lk_m2 rfl|exact lk_m3 rfl|exact lk_o rfl|exact lk_a2 rfl|exact lk_a3 rfl|exact lk_a4 rfl|exact lk_a1 rfl|exact lk_a5 rfl|exact lk_a6 rfl|exact lk_a7 rfl|exact lk_a8 rfl|exact lk_a rfl);(focus first|exact lk_m1 rfl|exact lk_m2 rfl|exact lk_m3 rfl|exact lk_o rfl|exact lk_a2 rfl|exact lk_a3 rfl|exact lk_a4 rfl|exact lk_a1 rfl|exact lk_a5 rfl|exact lk_a6 rfl|exact lk_a7 rfl|exact lk_a8 rfl|exact lk_a rfl);(focus rfl);(focus exact inferInstance);(focus first|exact True.intro|assumption|omega|(repeat' (first|assumption|refine And.intro ?_ ?_|omega|decide)));(focus rfl);(focus rfl)))
     | (apply gCallB;(focus rfl);first|exact lop_len_map rfl rfl rfl|exact lop_len_sl rfl rfl rfl|exact lop_len_nil rfl rfl rfl|exact lop_len_osl rfl rfl rfl|exact lop_len_str rfl rfl rfl|exact lop_min rfl rfl rfl rfl|(apply lop_ap_o1;(focus rfl);(focus exact inferInstance);(focus exact inferInstance);(focus exact inferInstance);(focus rfl);(focus rfl);(focus rfl);(focus rfl);(focus rfl);(focus rfl);(focus rfl);(focus first|(simp only [maxLen,List.length_append,List.length_cons,List.length_nil,List.length_take,List.length_drop,List.length_map];omega)|omega);(focus first|(simp only [maxLen,List.length_append,List.length_cons,List.length_nil,List.length_take,List.length_drop,List.length_map];omega)|omega);(focus rfl))|(apply lop_ap_on;(focus rfl);(focus exact inferInstance);(focus exact inferInstance);(focus exact inferInstance);(focus rfl);(focus rfl);(focus rfl);(focus rfl);(focus rfl);(focus rfl);(focus first|(simp only [maxLen,List.length_append,List.length_cons,List.length_nil,List.length_take,List.length_drop,List.length_map];omega)|omega);(focus first|(simp only [maxLen,List.length_append,List.length_cons,List.length_nil,List.length_take,List.length_drop,List.length_map];omega)|omega);(focus rfl))|(apply lop_ap_ex;(focus rfl);(focus exact inferInstance);(focus exact inferInstance);(focus exact inferInstance);(focus rfl);(focus rfl);(focus rfl);(focus first|(simp only [maxLen,List.length_append,List.length_cons,List.length_nil,List.length_take,List.length_drop,List.length_map];omega)|omega);(focus first|(simp only [maxLen,List.length_append,List.length_cons,List.length_nil,List.length_take,List.length_drop,List.length_map];omega)|omega);(focus rfl))|(apply lop_ap_e0;(focus rfl);(focus exact inferInstance);(focus exact inferInstance);(focus exact inferInstance);(focus rfl);(focus rfl);(focus rfl);(focus first|(simp only [maxLen,List.length_append,List.length_cons,List.length_nil,List.length_take,List.length_drop,List.length_map];omega)|omega);(focus first|(simp only [maxLen,List.length_append,List.length_cons,List.length_nil,List.length_take,List.length_drop,List.length_map];omega)|omega);(focus rfl))|(apply lop_ap_n;(focus rfl);(focus exact inferInstance);(focus exact inferInstance);(focus exact inferInstance);(focus rfl);(focus rfl);(focus rfl);(focus rfl);(focus decide);(focus rfl);(focus first|(simp only [maxLen,List.length_append,List.length_cons,List.length_nil,List.length_take,List.length_drop,List.length_map];omega)|omega);(focus first|(simp only [maxLen,List.length_append,List.length_cons,List.length_nil,List.length_take,List.length_drop,List.length_map];omega)|omega);(focus rfl)))
     | (apply gIndex;(focus rfl);first|(apply lop_ix_sl;(focus rfl);(focus exact inferInstance);(focus exact inferInstance);(focus rfl);(focus rfl);(focus omega);(focus first|exact rows_get (by omega) (by first|omega|(simp;omega))|rfl);(focus rfl))|(apply lop_ix_b;(focus rfl);(focus exact inferInstance);(focus exact inferInstance);(focus rfl);(focus rfl);(focus rfl);(focus rfl);(focus omega);(focus omega);(focus omega);(focus rfl))|(apply lop_ix_arr;(focus rfl);(focus exact inferInstance);(focus exact inferInstance);(focus rfl);(focus rfl);(focus omega);(focus omega);(focus rfl)))
     | (apply gField;(focus rfl);first|exact lop_fieldAddr rfl rfl (by decide) rfl rfl)
     | (apply gBin;(focus rfl);first|exact lop_lss rfl rfl rfl rfl|exact lop_eql rfl rfl rfl rfl|exact lop_neq rfl rfl rfl rfl|exact lop_leq rfl rfl rfl rfl|exact lop_gtr rfl rfl rfl rfl|exact lop_geq rfl rfl rfl rfl|exact lop_add' rfl rfl rfl rfl (by first|exact IntWalk.i64_in _ (by omega)|exact u64_in (by omega)|exact u32_in (by omega)|exact u8_in (by omega)|exact u16_in (by omega))|exact lop_sub' rfl rfl rfl rfl (by first|exact IntWalk.i64_in _ (by omega)|exact u64_in (by omega)|exact u32_in (by omega)|exact u8_in (by omega)|exact u16_in (by omega))|exact lop_mul' rfl rfl rfl rfl (by first|exact IntWalk.i64_in _ (by omega)|exact u64_in (by omega)|exact u32_in (by omega)|exact u8_in (by omega)|exact u16_in (by omega))|exact lop_eqlb rfl rfl rfl rfl|exact lop_ptr_eqnil rfl rfl rfl rfl|(apply lop_eqla;(focus rfl);(focus exact inferInstance);(focus first|exact lk_m1 rfl|exact lk_m2 rfl|exact lk_m3 rfl|exact lk_o rfl|exact lk_a2 rfl|exact lk_a3 rfl|exact lk_a4 rfl|exact lk_a1 rfl|exact lk_a5 rfl|exact lk_a6 rfl|exact lk_a7 rfl|exact lk_a8 rfl|exact lk_a rfl);(focus first|exact lk_m1 rfl|exact lk_m2 rfl|exact lk_m3 rfl|exact lk_o rfl|exact lk_a2 rfl|exact lk_a3 rfl|exact lk_a4 rfl|exact lk_a1 rfl|exact lk_a5 rfl|exact lk_a6 rfl|exact lk_a7 rfl|exact lk_a8 rfl|exact lk_a rfl);(focus repeat' (first|exact Plain.nil|apply Plain.cons|exact Plain.map|apply Plain.append));(focus repeat' (first|exact Plain.nil|apply Plain.cons|exact Plain.map|apply Plain.append));(focus repeat' (first|exact HasL.nil|apply HasL.cons rfl));(focus repeat' (first|exact HasL.nil|apply HasL.cons rfl));(focus exact ⟨_,_,_,inferInstance,rfl⟩);(focus rfl))|(apply lop_neqa;(focus rfl);(focus exact inferInstance);(focus first|exact lk_m1 rfl|exact lk_m2 rfl|exact lk_m3 rfl|exact lk_o rfl|exact lk_a2 rfl|exact lk_a3 rfl|exact lk_a4 rfl|exact lk_a1 rfl|exact lk_a5 rfl|exact lk_a6 rfl|exact lk_a7 rfl|exact lk_a8 rfl|exact lk_a rfl);(focus first|exact lk_m1 rfl|exact lk_m2 rfl|exact lk_m3 rfl|exact lk_o rfl|exact lk_a2 rfl|exact lk_a3 rfl|exact lk_a4 rfl|exact lk_a1 rfl|exact lk_a5 rfl|exact lk_a6 rfl|exact lk_a7 rfl|exact lk_a8 rfl|exact lk_a rfl);(focus repeat' (first|exact Plain.nil|apply Plain.cons|exact Plain.map|apply Plain.append));(focus repeat' (first|exact Plain.nil|apply Plain.cons|exact Plain.map|apply Plain.append));(focus repeat' (first|exact HasL.nil|apply HasL.cons rfl));(focus repeat' (first|exact HasL.nil|apply HasL.cons rfl));(focus exact ⟨_,_,_,inferInstance,rfl⟩);(focus rfl))|exact lop_rem' rfl rfl rfl rfl (by omega) (by omega)|exact lop_quo' rfl rfl rfl rfl (by omega) (by omega) (by first|exact IntWalk.i64_in _ (by omega)|exact u64_in (by omega)|exact u32_in (by omega)|exact u8_in (by omega)|exact u16_in (by omega))|(apply lop_sl_eqnil;(focus rfl);(focus exact inferInstance);(focus rfl);(focus rfl);(focus rfl)))
     | (apply gExtract;(focus rfl);first|exact lop_extract_o rfl rfl rfl rfl|exact lop_extract_a rfl rfl rfl rfl)
     | (apply gSlice;(focus rfl);first|(apply lop_sl_l;(focus rfl);(focus exact inferInstance);(focus exact inferInstance);(focus rfl);(focus rfl);(focus omega);(focus omega);(focus rfl))|(apply lop_sl_lhm;(focus rfl);(focus exact inferInstance);(focus exact inferInstance);(focus rfl);(focus rfl);(focus rfl);(focus rfl);(focus omega);(focus omega);(focus omega);(focus omega);(focus rfl)))
     | exact lop_not rfl rfl rfl
     | exact lop_box_a rfl rfl rfl rfl rfl
     | exact lop_box_o rfl rfl rfl rfl rfl
     | exact lop_alloc rfl rfl rfl (by decide) rfl
     | (apply lop_build0;(focus rfl);(focus exact inferInstance);(focus exact inferInstance);(focus decide);(focus first|exact sn2 rfl|exact sn3 rfl|exact sn4 rfl|exact sn1 rfl|exact sn5 rfl|exact sn6 rfl|exact sn7 rfl|exact sn8 rfl|exact sn9 rfl|exact sn10 rfl|exact sn11 rfl|exact sn12 rfl|rfl);(focus rfl))
     | (apply lop_build1;(focus rfl);(focus exact inferInstance);(focus exact inferInstance);(focus first|exact lk_m1 rfl|exact lk_m2 rfl|exact lk_m3 rfl|exact lk_o rfl|exact lk_a2 rfl|exact lk_a3 rfl|exact lk_a4 rfl|exact lk_a1 rfl|exact lk_a5 rfl|exact lk_a6 rfl|exact lk_a7 rfl|exact lk_a8 rfl|exact lk_a rfl);(focus decide);(focus first|exact sn2 rfl|exact sn3 rfl|exact sn4 rfl|exact sn1 rfl|exact sn5 rfl|exact sn6 rfl|exact sn7 rfl|exact sn8 rfl|exact sn9 rfl|exact sn10 rfl|exact sn11 rfl|exact sn12 rfl|rfl);(focus rfl))
     | (apply lop_build2;(focus rfl);(focus exact inferInstance);(focus exact inferInstance);(focus first|exact lk_m1 rfl|exact lk_m2 rfl|exact lk_m3 rfl|exact lk_o rfl|exact lk_a2 rfl|exact lk_a3 rfl|exact lk_a4 rfl|exact lk_a1 rfl|exact lk_a5 rfl|exact lk_a6 rfl|exact lk_a7 rfl|exact lk_a8 rfl|exact lk_a rfl);(focus first|exact lk_m1 rfl|exact lk_m2 rfl|exact lk_m3 rfl|exact lk_o rfl|exact lk_a2 rfl|exact lk_a3 rfl|exact lk_a4 rfl|exact lk_a1 rfl|exact lk_a5 rfl|exact lk_a6 rfl|exact lk_a7 rfl|exact lk_a8 rfl|exact lk_a rfl);(focus decide);(focus first|exact sn2 rfl|exact sn3 rfl|exact sn4 rfl|exact sn1 rfl|exact sn5 rfl|exact sn6 rfl|exact sn7 rfl|exact sn8 rfl|exact sn9 rfl|exact sn10 rfl|exact sn11 rfl|exact sn12 rfl|rfl);(focus rfl))
     | (apply lop_build3;(focus rfl);(focus exact inferInstance);(focus exact inferInstance);(focus first|exact lk_m1 rfl|exact lk_m2 rfl|exact lk_m3 rfl|exact lk_o rfl|exact lk_a2 rfl|exact lk_a3 rfl|exact lk_a4 rfl|exact lk_a1 rfl|exact lk_a5 rfl|exact lk_a6 rfl|exact lk_a7 rfl|exact lk_a8 rfl|exact lk_a rfl);(focus first|exact lk_m1 rfl|exact lk_m2 rfl|exact lk_m3 rfl|exact lk_o rfl|exact lk_a2 rfl|exact lk_a3 rfl|exact lk_a4 rfl|exact lk_a1 rfl|exact lk_a5 rfl|exact lk_a6 rfl|exact lk_a7 rfl|exact lk_a8 rfl|exact lk_a rfl);(focus first|exact lk_m1 rfl|exact lk_m2 rfl|exact lk_m3 rfl|exact lk_o rfl|exact lk_a2 rfl|exact lk_a3 rfl|exact lk_a4 rfl|exact lk_a1 rfl|exact lk_a5 rfl|exact lk_a6 rfl|exact lk_a7 rfl|exact lk_a8 rfl|exact lk_a rfl);(focus decide);(focus first|exact sn2 rfl|exact sn3 rfl|exact sn4 rfl|exact sn1 rfl|exact sn5 rfl|exact sn6 rfl|exact sn7 rfl|exact sn8 rfl|exact sn9 rfl|exact sn10 rfl|exact sn11 rfl|exact sn12 rfl|rfl);(focus rfl))
     | (apply lop_build4;(focus rfl);(focus exact inferInstance);(focus exact inferInstance);(focus first|exact lk_m1 rfl|exact lk_m2 rfl|exact lk_m3 rfl|exact lk_o rfl|exact lk_a2 rfl|exact lk_a3 rfl|exact lk_a4 rfl|exact lk_a1 rfl|exact lk_a5 rfl|exact lk_a6 rfl|exact lk_a7 rfl|exact lk_a8 rfl|exact lk_a rfl);(focus first|exact lk_m1 rfl|exact lk_m2 rfl|exact lk_m3 rfl|exact lk_o rfl|exact lk_a2 rfl|exact lk_a3 rfl|exact lk_a4 rfl|exact lk_a1 rfl|exact lk_a5 rfl|exact lk_a6 rfl|exact lk_a7 rfl|exact lk_a8 rfl|exact lk_a rfl);(focus first|exact lk_m1 rfl|exact lk_m2 rfl|exact lk_m3 rfl|exact lk_o rfl|exact lk_a2 rfl|exact lk_a3 rfl|exact lk_a4 rfl|exact lk_a1 rfl|exact lk_a5 rfl|exact lk_a6 rfl|exact lk_a7 rfl|exact lk_a8 rfl|exact lk_a rfl);(focus first|exact lk_m1 rfl|exact lk_m2 rfl|exact lk_m3 rfl|exact lk_o rfl|exact lk_a2 rfl|exact lk_a3 rfl|exact lk_a4 rfl|exact lk_a1 rfl|exact lk_a5 rfl|exact lk_a6 rfl|exact lk_a7 rfl|exact lk_a8 rfl|exact lk_a rfl);(focus decide);(focus first|exact sn2 rfl|exact sn3 rfl|exact sn4 rfl|exact sn1 rfl|exact sn5 rfl|exact sn6 rfl|exact sn7 rfl|exact sn8 rfl|exact sn9 rfl|exact sn10 rfl|exact sn11 rfl|exact sn12 rfl|rfl);(focus rfl))
     | exact lop_nilCheck rfl rfl rfl
     | exact lop_conv' rfl rfl rfl (by first|exact IntWalk.i64_in _ (by omega)|exact u64_in (by omega)|exact u32_in (by omega)|exact u8_in (by omega)|exact u16_in (by omega))
     | (apply lop_ms_b;(focus rfl);(focus exact inferInstance);(focus exact inferInstance);(focus exact inferInstance);(focus rfl);(focus rfl);(focus rfl);(focus rfl);(focus rfl);(focus omega);(focus omega);(focus omega);(focus rfl);(focus rfl))
     | (apply lop_ms_i;(focus rfl);(focus exact inferInstance);(focus exact inferInstance);(focus exact inferInstance);(focus rfl);(focus rfl);(focus rfl);(focus rfl);(focus rfl);(focus omega);(focus omega);(focus omega);(focus rfl);(focus rfl))
     | (apply lop_bs0;(focus rfl);(focus exact inferInstance);(focus exact inferInstance);(focus exact inferInstance);(focus rfl);(focus rfl))
     | (apply lop_bs1;(focus rfl);(focus exact inferInstance);(focus exact inferInstance);(focus exact inferInstance);(focus rfl);(focus rfl);(focus rfl))
     | (apply lop_bs2;(focus rfl);(focus exact inferInstance);(focus exact inferInstance);(focus exact inferInstance);(focus rfl);(focus rfl);(focus rfl);(focus rfl))
     | (apply lop_bs3;(focus rfl);(focus exact inferInstance);(focus exact inferInstance);(focus exact inferInstance);(focus rfl);(focus rfl);(focus rfl);(focus rfl);(focus rfl))
     | (apply lop_bs4;(focus rfl);(focus exact inferInstance);(focus exact inferInstance);(focus exact inferInstance);(focus rfl);(focus rfl);(focus rfl);(focus rfl);(focus rfl);(focus rfl))
     | (apply lop_bs5;(focus rfl);(focus exact inferInstance);(focus exact inferInstance);(focus exact inferInstance);(focus rfl);(focus rfl);(focus rfl);(focus rfl);(focus rfl);(focus rfl);(focus rfl))
     | exact lop_bits (.inl rfl) rfl rfl rfl rfl
     | exact lop_neg rfl rfl rfl
     | exact lop_conv rfl rfl rfl
     | (apply lop_build_ar;(focus rfl);(focus exact inferInstance);(focus exact inferInstance);(focus exact inferInstance);(focus repeat' (first|exact All2.nil|apply bp_cons rfl));(focus decide);(focus first|exact sn8 rfl|exact sn64 rfl|exact sn32 rfl|exact sn16 rfl|exact sn21 rfl|exact sn4 rfl);(focus rfl))
     | (apply lop_ixv;(focus rfl);(focus exact inferInstance);(focus exact inferInstance);(focus rfl);(focus rfl);(focus omega);(focus omega);(focus omega);(focus rfl);(focus rfl);(focus rfl);(focus rfl);(focus exact inferInstance))
     | (apply lop_mf1;(focus rfl);(focus rfl);(focus rfl);(focus rfl);(focus first|exact pm1|exact pm2|exact pm3|exact pm4|exact pm5|exact pm6);(focus rfl))
     | (apply lop_mf2;(focus rfl);(focus rfl);(focus rfl);(focus rfl);(focus first|exact pm1|exact pm2|exact pm3|exact pm4|exact pm5|exact pm6);(focus rfl);(focus rfl);(focus rfl);(focus first|exact pm1|exact pm2|exact pm3|exact pm4|exact pm5|exact pm6);(focus decide);(focus rfl))
     | (apply lop_yield;(focus rfl);(focus rfl);(focus rfl);(focus rfl);(focus assumption);(focus rfl))):LOp C o σ e ro:=h
theorem stoA {C:Ctx} {o:Oper} {σ:St} {e:Eff} {ro:Nat→Bool} (h:LOp C o σ e ro:=by
  first|exact lop_store_all rfl rfl rfl rfl rfl rfl rfl rfl|(apply lop_st_arr;(focus rfl);(focus exact inferInstance);(focus rfl);(focus rfl);(focus rfl);(focus rfl);(focus rfl);(focus rfl);(focus rfl);(focus omega))|(apply lop_store_x;(focus rfl);(focus exact inferInstance);(focus rfl);(focus rfl);(focus rfl);(focus rfl);(focus rfl);(focus rfl);(focus first|decide|(simp [*];done));(focus first|exact ln2 rfl|exact ln3 rfl|exact ln4 rfl|exact ln1 rfl|exact ln5 rfl|exact ln6 rfl|exact ln7 rfl|exact ln8 rfl|exact ln9 rfl|exact ln10 rfl|exact ln11 rfl|exact ln12 rfl|rfl))|exact lop_store_all rfl rfl rfl rfl rfl rfl (by first|(rw [List.length_map];assumption)|(simp [*];done)) (by first|(rw [List.length_map];assumption)|(simp [*];done))):LOp C o σ e ro:=h
theorem knA {α:Type} {f:Nat→α} {l:List (Nat × α)} (h:Knows f l:=by repeat' (first|exact Knows.nil|refine Knows.cons rfl ?_)):Knows f l:=h
theorem frA {σ τ:St} {W M:List Nat} {e:List (Nat × AV)} {m:List (Nat × (Nat × Option MO))} (h:Agr σ W M τ:=by (repeat' (first|exact Agr.fr0 rfl rfl|exact Agr.refl|refine Agr.appg rfl rfl ?_|refine Agr.appgn rfl ?_|refine Agr.set rfl ?_|refine Agr.put rfl ?_|refine Agr.fr ?_ (memb_sub rfl) (memb_sub rfl) rfl rfl)))
  (he:Knows τ.env e:=by exact knA) (hm:Knows τ.mem m:=by exact knA):Fr' σ W e M m τ:=.mk h he hm
section steps
variable {C:Ctx} {ops:Array Oper} {o:Oper} {rest:List Oper} {K:St→Prop} {σ:St} {e:Eff} {ro:Nat→Bool} {W:List (Nat × Nat)} {i:Nat}
theorem rnA {d:Nat} (hg:Guard ops σ o true:=by first|exact gd_n rfl rfl|exact gd_t rfl rfl rfl rfl|exact gd_t rfl rfl rfl (by assumption)) (hd:o.dst=some d:=by rfl) (h:LOp C o σ e ro:=by exact lopA) (hk:RunN C ops rest K (e.app (some d) σ)):RunN C ops (o::rest) K σ:=rn_any hg hd h hk
theorem rnS (hg:Guard ops σ o true:=by first|exact gd_n rfl rfl|exact gd_t rfl rfl rfl rfl|exact gd_t rfl rfl rfl (by assumption)) (hd:o.dst=none:=by rfl) (h:LOp C o σ e ro:=by exact stoA) (hk:RunN C ops rest K (e.app none σ)):RunN C ops (o::rest) K σ:=rn_sto hg hd h hk
theorem rnG {j t:Nat} {want b:Bool} {d:Nat} (hg:o.guard=some (j,want):=by rfl) (ht:(ops[j]?).bind (·.dst)=some t:=by rfl) (hv:σ.env t=.p (.v (.bool b)):=by rfl) (hb:b=!want:=by first|rfl|assumption) (hdd:o.dst=some d:=by rfl) (hd:dOk C o.dst=true:=by rfl) (hk:RunN C ops rest K (σ.set (some d) (.tup []))):RunN C ops (o::rest) K σ:=rn_gf hg ht hv hb hdd hd hk
theorem rnU {j t:Nat} {want:Bool} {d:Nat} (hg:o.guard=some (j,want):=by rfl) (ht:(ops[j]?).bind (·.dst)=some t:=by rfl) (hv:σ.env t=.tup []:=by rfl) (hdd:o.dst=some d:=by rfl) (hd:dOk C o.dst=true:=by rfl) (hk:RunN C ops rest K (σ.set (some d) (.tup []))):RunN C ops (o::rest) K σ:=rn_gu hg ht hv hdd hd hk
theorem rkU {j t:Nat} {want:Bool} {d:Nat} (hg:o.guard=some (j,want):=by rfl) (ht:(ops[j]?).bind (·.dst)=some t:=by rfl) (hv:σ.env t=.tup []:=by rfl) (hdd:o.dst=some d:=by rfl) (hd:dOk C o.dst=true:=by rfl) (hk:RunK C ops W (i+1) rest K (σ.set (some d) (.tup []))):RunK C ops W i (o::rest) K σ:=rk_gu hg ht hv hdd hd hk
theorem rnP {j t:Nat} {want b:Bool} (hg:o.guard=some (j,want):=by rfl) (ht:(ops[j]?).bind (·.dst)=some t:=by rfl) (hv:σ.env t=.p (.v (.bool b)):=by rfl) (h1:b=true→RunN C ops (o::rest) K σ) (h2:b=false→RunN C ops (o::rest) K σ):RunN C ops (o::rest) K σ:=rn_split hg ht hv h1 h2
theorem rnKn {j t:Nat} {want b:Bool} (hg:o.guard=some (j,want):=by rfl) (ht:(ops[j]?).bind (·.dst)=some t:=by rfl) (hv:σ.env t=.p (.v (.bool b)):=by rfl) (hb:b=true∨b=false:=by first|exact .inl (by assumption)|exact .inr (by assumption)) (hk:RunN C ops (o::rest) K σ):RunN C ops (o::rest) K σ:=hk
theorem rkKn {j t:Nat} {want b:Bool} (hg:o.guard=some (j,want):=by rfl) (ht:(ops[j]?).bind (·.dst)=some t:=by rfl) (hv:σ.env t=.p (.v (.bool b)):=by rfl) (hb:b=true∨b=false:=by first|exact .inl (by assumption)|exact .inr (by assumption)) (hk:RunK C ops W i (o::rest) K σ):RunK C ops W i (o::rest) K σ:=hk
theorem rkA {d:Nat} (hg:Guard ops σ o true:=by first|exact gd_n rfl rfl|exact gd_t rfl rfl rfl rfl|exact gd_t rfl rfl rfl (by assumption)) (hd':o.dst=some d:=by rfl) (hd:dOk C o.dst=true:=by rfl) (h:LOp C o σ e ro:=by exact lopA) (hro:∀ x,ro x=true→okObj ops W i x=true:=by first|exact fun _=>ro_none|exact ro_one rfl|exact ro_one (by kernel_rfl)|exact ro_kIn (by decide)) (hob:∀ p∈e.obj,(i,p.1)∈W:=by first|exact ob_none|exact ob_one (by decide)|decide) (hk:RunK C ops W (i+1) rest K (e.app (some d) σ)):RunK C ops W i (o::rest) K σ:=rk_wr hg hd' hd h hro hob hk
theorem rkF {j t:Nat} {want b:Bool} {d:Nat} (hg:o.guard=some (j,want):=by rfl) (ht:(ops[j]?).bind (·.dst)=some t:=by rfl) (hv:σ.env t=.p (.v (.bool b)):=by rfl) (hb:b=!want:=by first|rfl|assumption) (hdd:o.dst=some d:=by rfl) (hd:dOk C o.dst=true:=by rfl) (hk:RunK C ops W (i+1) rest K (σ.set (some d) (.tup []))):RunK C ops W i (o::rest) K σ:=rk_gf hg ht hv hb hdd hd hk
theorem rkP {j t:Nat} {want b:Bool} (hg:o.guard=some (j,want):=by rfl) (ht:(ops[j]?).bind (·.dst)=some t:=by rfl) (hv:σ.env t=.p (.v (.bool b)):=by rfl) (h1:b=true→RunK C ops W i (o::rest) K σ) (h2:b=false→RunK C ops W i (o::rest) K σ):RunK C ops W i (o::rest) K σ:=rk_split hg ht hv h1 h2
end steps
theorem ifT {C:Ctx} {σ:St} {Q:Exit→St→Prop} {k:List Code} {cd:Operand} {x y:Code} {b:Bool} (hv:σ.look cd=.p (.v (.bool b)):=by rfl) (hb:b=true:=by first|rfl|assumption) (h1:AWs C (x::k) Q σ):AWs C (.cond cd x y::k) Q σ:=aws_if_t hv hb h1
theorem ifF {C:Ctx} {σ:St} {Q:Exit→St→Prop} {k:List Code} {cd:Operand} {x y:Code} {b:Bool} (hv:σ.look cd=.p (.v (.bool b)):=by rfl) (hb:b=false:=by first|rfl|assumption) (h1:AWs C (y::k) Q σ):AWs C (.cond cd x y::k) Q σ:=aws_if_f hv hb h1
theorem ifB {C:Ctx} {σ:St} {Q:Exit→St→Prop} {k:List Code} {cd:Operand} {x y:Code} {b:Bool} (hv:σ.look cd=.p (.v (.bool b)):=by rfl) (h1:b=true→AWs C (x::k) Q σ) (h2:b=false→AWs C (y::k) Q σ):AWs C (.cond cd x y::k) Q σ:=aws_if hv h1 h2
theorem ifQ {C:Ctx} {σ:St} {Q:Exit→St→Prop} {k:List Code} {cd:Operand} {x y:Code} {q:Prop} (hv:σ.look cd=.p (.qb q):=by rfl) (h1:q→AWs C (x::k) Q σ) (h2:True→AWs C (y::k) Q σ):AWs C (.cond cd x y::k) Q σ:=aws_if_qb hv h1 h2
theorem stp {X Y:Prop} (e:Y→X:=by
  first|exact rn_nil|exact rk_nil|exact aws_seq|exact aws_region|exact aws_skip|exact aws_label|exact aws_goto|exact aws_exit|exact aws_nil|exact aws_blk_s|exact aws_blk_r|exact aws_blk_c|exact blk_exit|exact blk_normal|exact blk_ret|exact aws_ret|fail) (h:Y):X:=e h
structure Tg (X:Prop):Prop where v:X
theorem spQ {b c:Bool} {X q:Prop} (h:b=c→q→X) (s:b=c→q:=by intro hq;first|(simp only [hqs] at hq;exact hq)|exact hq):Tg (b=c→X):=⟨fun e=>h e (s e)⟩
theorem spF {b c:Bool} {X:Prop} (s:b=c→False:=by intro hq;(simp only [hqs] at hq)<;>fail):Tg (b=c→X):=⟨fun e=>(s e).elim⟩
theorem spN {q X:Prop} (h:q→X):Tg (q→X):=⟨h⟩
theorem spK {X Y P:Prop} (h:P):X→Y→P:=fun _ _=>h
theorem jx0 {X P:Prop} (x:X) (h:X→P:=by first|exact rnB|exact rnSB|exact rnG|exact rnU|exact rkB|exact rkSB|exact rkF|exact rkU|exact stp|exact aws_draws [] mixed (by kernel_rfl)|exact ifT|exact ifF|fail):P:=h x
theorem jx1 {X P:Prop} (x:X) (h:X→P:=by first|exact rnQ|exact rnSQ|exact rnG|exact rnU|exact rkQ|exact rkSQ|exact rkF|exact rkU|exact stp|exact aws_draws [] mixed (by kernel_rfl)|exact ifT|exact ifF|fail):P:=h x
theorem jx2 {X P:Prop} (x:X) (h:X→P:=by first|exact rnJ|exact rnSB|exact rnG|exact rnU|exact rkJ|exact rkSB|exact rkF|exact rkU|exact stp|exact aws_draws [] mixed (by kernel_rfl)|exact ifT|exact ifF|fail):P:=h x
theorem jx3 {X P:Prop} (x:X) (h:X→P:=by first|exact rnC|exact rnSQ|exact rnG|exact rnU|exact rkC|exact rkSQ|exact rkF|exact rkU|exact stp|exact ifT|exact ifF|fail):P:=h x
theorem jx4 {X P:Prop} (x:X) (h:X→P:=by first|exact rnY|exact rnSQ|exact rnG|exact rnU|exact rkY|exact rkSQ|exact rkF|exact rkU|exact stp|exact aws_draws [] mixed (by kernel_rfl)|exact ifT|exact ifF|fail):P:=h x
theorem jx5 {X P:Prop} (x:X) (h:X→P:=by first|exact rnC|exact rnSB|exact rnG|exact rnU|exact rkC|exact rkSB|exact rkF|exact rkU|exact stp|exact ifT|exact ifF|fail):P:=h x
theorem jx6 {X P:Prop} (x:X) (h:X→P:=by first|exact rnC|exact rnSB|exact rnG|exact rnU|exact rkC|exact rkSB|exact rkF|exact rkU|exact stp|exact aws_draws [] mixed (by kernel_rfl)|exact ifT|exact ifF|fail):P:=h x
theorem jx7 {X P:Prop} (x:X) (h:X→P:=by first|exact rk_nil|exact rkC|exact rkSB|exact rkF|exact rkU|fail):P:=h x
theorem jx8 {X P:Prop} (x:X) (h:X→P:=by first|exact rnC|exact rnSB|exact rnG|exact rnU|exact rkC|exact rkSB|exact rkF|exact rkU|exact stpR|exact ifT|exact ifF|fail):P:=h x
theorem jx9 {X P:Prop} (x:X) (h:X→P:=by first|exact rnAW|exact rnS|exact rnG|exact rnU|exact rkAW|exact rkS|exact rkF|exact rkU|exact stp|exact ifT|exact ifF|fail):P:=h x
theorem jx10 {X P:Prop} (x:X) (h:X→P:=by first|exact rk_nil|exact rkAW|exact rkS|exact rkF|exact rkU|fail):P:=h x
theorem jx11 {X P:Prop} (x:X) (h:X→P:=by first|exact rnA|exact rnS|exact rnG|exact rnU|exact rkA|exact rkS|exact rkF|exact rkU|exact stp|exact ifT|exact ifF|fail):P:=h x
theorem jx12 {X P:Prop} (x:X) (h:X→P:=by first|exact rnA|exact rnS|exact rnG|exact rnU|exact rkA|exact rkS|exact rkF|exact rkU|exact stp|exact aws_draws [] mixed (by kernel_rfl)|exact ifT|exact ifF|fail):P:=h x
theorem jx13 {X P:Prop} (x:X) (h:X→P:=by first|exact rk_nil|exact rkA|exact rkS|exact rkF|exact rkU|fail):P:=h x
theorem jx14 {X P:Prop} (x:X) (h:X→P:=by first|exact rnC|exact rnSW|exact rnG|exact rnU|exact rkC|exact rkSW|exact rkF|exact rkU|exact stp|exact ifT|exact ifF|fail):P:=h x
theorem jx15 {X P:Prop} (x:X) (h:X→P:=by first|exact rnC|exact rnSW|exact rnG|exact rnU|exact rkC|exact rkSW|exact rkF|exact rkU|exact stp|exact aws_draws [] mixed (by kernel_rfl)|exact ifT|exact ifF|fail):P:=h x
theorem jx16 {X P:Prop} (x:X) (h:X→P:=by first|exact rnO|exact rnSB|exact rnG|exact rnU|exact rkO|exact rkSB|exact rkF|exact rkU|exact stp|exact ifT|exact ifF|fail):P:=h x
theorem jx17 {X P:Prop} (x:X) (h:X→P:=by first|exact rnB|exact rnSB|exact rnG|exact rnU|exact rkB|exact rkSB|exact rkF|exact rkU|exact stp|exact ifT|exact ifF|fail):P:=h x
theorem jx18 {X P:Prop} (x:X) (h:X→P:=by first|exact rnZ|exact rnSB|exact rnG|exact rnU|exact rkZ|exact rkSB|exact rkF|exact rkU|exact stp|exact ifT|exact ifF|fail):P:=h x
theorem jx19 {X P:Prop} (x:X) (h:X→P:=by first|exact rnZ|exact rnSB|exact rnG|exact rnU|exact rkZ|exact rkSB|exact rkF|exact rkU|exact stp|exact aws_draws [] mixed (by kernel_rfl)|exact ifT|exact ifF|fail):P:=h x
theorem jx20 {X P:Prop} (x:X) (h:X→P:=by first|exact rnC|exact rnSM|exact rnG|exact rnU|exact rkC|exact rkSM|exact rkF|exact rkU|exact stp|exact ifT|exact ifF|fail):P:=h x
theorem jx21 {X P:Prop} (x:X) (h:X→P:=by first|exact rk_nil|exact rkC|exact rkSM|exact rkF|exact rkU|fail):P:=h x
theorem jx22 {X P:Prop} (x:X) (h:X→P:=by first|exact rnC|exact rnSM|exact rnG|exact rnU|exact rkC|exact rkSM|exact rkF|exact rkU|exact stp|exact aws_draws [] mixed (by kernel_rfl)|exact ifT|exact ifF|fail):P:=h x
theorem jx23 {X P:Prop} (x:X) (h:X→P:=by first|exact rnC|exact rnSQ|exact rnG|exact rnU|exact rkC|exact rkSQ|exact rkF|exact rkU|exact stpR|exact ifT|exact ifF|fail):P:=h x
theorem jx24 {X P:Prop} (x:X) (h:X→P:=by first|exact rnC|exact rnSB|exact rnG|exact rnU|exact rkC|exact rkSB|exact rkF|exact rkU|exact stpB|exact ifT|exact ifF|fail):P:=h x
theorem jx25 {X P:Prop} (x:X) (h:X→P:=by first|exact rnC|exact rnSM|exact rnG|exact rnU|exact rkC|exact rkSM|exact rkF|exact rkU|exact stpR|exact ifT|exact ifF|fail):P:=h x
theorem jx26 {X P:Prop} (x:X) (h:X→P:=by first|exact fun z9=>aws_label (hlab _ z9)|exact rnB|exact rnSB|exact rnG|exact rnU|exact rkB|exact rkSB|exact rkF|exact rkU|exact stp|exact ifT|exact ifF|fail):P:=h x
theorem jy0 {X Y P:Prop} (x:Tg X) (y:Tg Y) (h:X→Y→P:=by first|((fail_if_success (refine spK (rnKn (hk:=?_))));exact rnP)|((fail_if_success (refine spK (rkKn (hk:=?_))));exact rkP)|exact ifQ|exact ifB|fail):P:=h x.v y.v
theorem jy1 {X Y P:Prop} (x:Tg X) (y:Tg Y) (h:X→Y→P:=by first|((fail_if_success (refine spK (rkKn (hk:=?_))));exact rkP)|fail):P:=h x.v y.v
theorem jy2 {X Y P:Prop} (x:Tg X) (y:Tg Y) (h:X→Y→P:=by first|((fail_if_success (refine spK (rnKn (hk:=?_))));exact rnP)|((fail_if_success (refine spK (rkKn (hk:=?_))));exact rkP)|fail):P:=h x.v y.v
end Go.Aw
/- THE ABSTRACT WALK, part 16: a range over a function: the frame that ranges lies as one object before the function that it ranges over. Nothing here speaks of a program. -/
namespace Go.Aw
open Go Go.RowKit
set_option linter.unusedVariables false
set_option linter.unusedSimpArgs false
def PVal.fnv (f:FuncId) (caps:List PVal):PVal where
  holds X v:=∃ vs:List Value,v=.func (.func f) #[] vs.toArray∧All2 (fun p c=>p.holds X c) caps vs
  mono:=by rintro x y v hle ⟨vs,h1,h2⟩;exact ⟨vs,h1,h2.mono fun p c hp=>p.mono hle hp⟩
  one:=by rintro x v ⟨vs,rfl,_⟩;rfl
/-! ### A round, as the function that is ranged over sees it -/
def YOk (P:Program) (w0:World) (F S0:Nat→Prop) (yv:Value) (av:AV) (ob:Nat) (m0 m1:Nat × Option MO):Prop:=
  ∀ (w:World) (G:Gh) (mem:Nat→Nat × Option MO) (v:Value),ObjG mem w G→FrF F w0 w→(∀ b,G.S b→S0 b∨w0.heap.size≤b∨F b)→mem ob=m0→av.holds G.μ ⟨w,G.S⟩ v→
    ∃ l fn tmps assign body,yv=.func (.yield l) #[] #[]∧(Instr.yield l #[v]).run P w=.ok (.round l fn tmps assign body) w∧
      RoundIn (fz none) 0 P l fn tmps assign body w fun e w'=>e=.returned (.bool true)∧∃ G',ObjG (putsM mem [(ob,m1)]) w' G'∧
        (∀ b,G.S b→G'.S b)∧(∀ b,G'.S b→G.S b∨w.heap.size≤b∨b∈G.φ ob)∧(∀ o b,b∈G'.φ o→b∈G.φ o∨w.heap.size≤b∨b∈G.φ ob)∧G.μ.le G'.μ∧FrF (fun b=>b∈G.φ ob) w w'
theorem lop_yield {C:Ctx} {o:Oper} {σ:St} {x y:Operand} {ts:Array TypeId} {yv:Value} {av:AV} {ob:Nat} {m0 m1:Nat × Option MO} (ho:o.op=.call ⟨.value x,#[y],ts⟩) (hx:σ.look x=.p (.v yv)) (hy:σ.look y=av) (hm:σ.mem ob=m0)
    (hY:YOk C.P C.w0 C.F C.S0 yv av ob m0 m1) (hd:dOk C o.dst=true):LOp C o σ ⟨.p (.b true),[(ob,m1)]⟩ (fun q=>q == ob):=by
  refine ⟨fun q m h=>by simp at h;simp [h.1],fun τ hlk hmm a w ⟨G,h⟩ K Q hK=>?_⟩
  have ex:=val_of h ((hlk x (by rw [ho];simp [Op.operands,Call.operands])).trans hx)
  have ey:=look_of h ((hlk y (by rw [ho];simp [Op.operands,Call.operands])).trans hy)
  obtain ⟨l,fn,tmps,assign,body,rfl,hrun,hround⟩:=hY w G τ.mem (a.eval y) h.objG ⟨h.fr.os,h.fr.tape,h.fr.output,h.fr.size,h.fr.block⟩ (fun b hb=>(h.sbd b hb).2) ((hmm ob (by simp)).trans hm) ey
  have hexec:(execOp a.eval o).run C.P w=.ok (.round l fn tmps assign body) w:=by
    simp [execOp,ho,resolve,ex,Deferred.ofValue,invoke,hrun]
  refine wpIn_exec (by rw [ho];intro c h;cases h) ?_
  rw [hexec,Oper.uponIn_round]
  refine ⟨by simp [fz,Fence.wide],?_⟩
  have hround':RoundIn (fz C.ro) (0 - 1) C.P l fn tmps assign body w _:=hround
  refine hround'.mono ?_
  rintro e w' ⟨rfl,G',hobj,k1,k2,k3,k4,k5⟩
  have hrel:=h.called (D:=fun q=>q=ob) hobj k1 (fun b hb=>by
      rcases k2 b hb with h1|h1|h1
      · exact .inl h1
      · exact .inr (.inl h1)
      · exact .inr (.inr ⟨ob,rfl,h1⟩)) (fun q b hb=>by
      rcases k3 q b hb with h1|h1|h1
      · exact .inl h1
      · exact .inr (.inl h1)
      · exact .inr (.inr ⟨ob,rfl,h1⟩)) k4 ⟨k5.os,k5.tape,k5.output,k5.size,fun k hk hn=>k5.block k hk fun hc=>hn ⟨ob,rfl,hc⟩⟩
  have hst:(⟨τ.env,putsM τ.mem [(ob,m1)]⟩:St)=τ.puts [(ob,m1)]:=by
    have e1:=St.puts_env [(ob,m1)] τ
    have e2:(τ.puts [(ob,m1)]).mem=putsM τ.mem [(ob,m1)]:=funext fun o=>puts_mem_eq [(ob,m1)] τ o
    cases hq:τ.puts [(ob,m1)];rw [hq] at e1 e2;simp at e1 e2;rw [e1,e2]
  rw [hst] at hrel
  exact hK _ _ ⟨_,hrel.setv hd ⟨rfl,rfl⟩⟩
/-! ### The frame that ranges -/
structure RelX (C:Ctx) (σ:St) (a:Act) (w:World) (G:Gh):Prop where
  size:a.tmps.size=C.N
  mle:C.M0.le G.μ
  env:∀ t,(σ.env t).holds G.μ ⟨w,G.S⟩ (a.tmps.getD t undef)
  gens:∀ o,(G.μ o).length=(σ.mem o).1
  mem:∀ o n mo,σ.mem o=(n,some mo)→∃ g m,n=g+1∧(G.μ o)[g]?=some m∧mo.holds G.μ ⟨w,G.S⟩ m (G.φ o)
  apart:∀ o o' b,o≠o'→b∈G.φ o→b∈G.φ o'→False
  stab:∀ o b,b∈G.φ o→¬ G.S b
  own:∀ o b,b∈G.φ o→(C.w0.heap.size≤b∨C.F b)∧b < w.heap.size
  sbd:∀ b,G.S b→b < w.heap.size∧(C.S0 b∨C.w0.heap.size≤b∨C.F b)
  ssub:∀ b,C.S0 b→G.S b
theorem heap_lt {w w':World} {b:Nat} (h:b < w.heap.size) (e:w'.heap[b]?=w.heap[b]?):b < w'.heap.size:=by
  rw [Array.getElem?_eq_getElem h] at e
  exact (Array.getElem?_eq_some_iff.1 e).1
theorem RelX.mono {C:Ctx} {σ:St} {a:Act} {w w':World} {G:Gh} (h:RelX C σ a w G) (hS:∀ b,G.S b→w'.heap[b]?=w.heap[b]?) (hφ:∀ o b,b∈G.φ o→w'.heap[b]?=w.heap[b]?):RelX C σ a w' G:=by
  have hle:Wd.le ⟨w,G.S⟩ ⟨w',G.S⟩:=fun b hb=>⟨hb,hS b hb⟩
  exact { size:=h.size
          mle:=h.mle
          env:=fun t=>(h.env t).mono (Mu.le.refl _) hle
          gens:=h.gens
          mem:=fun o n mo ho=>by
            obtain ⟨g,m,h1,h2,h3⟩:=h.mem o n mo ho
            exact ⟨g,m,h1,h2,h3.mono (Mu.le.refl _) hle fun k hk=>hφ o k hk⟩
          apart:=h.apart
          stab:=h.stab
          own:=fun o b hb=>⟨(h.own o b hb).1,heap_lt (h.own o b hb).2 (hφ o b hb)⟩
          sbd:=fun b hb=>⟨heap_lt (h.sbd b hb).1 (hS b hb),(h.sbd b hb).2⟩
          ssub:=h.ssub }
theorem RelX.more {C:Ctx} {σ:St} {a:Act} {w:World} {G:Gh} (h:RelX C σ a w G) {S':Nat→Prop} (h1:∀ b,G.S b→S' b) (h2:∀ o b,b∈G.φ o→¬ S' b) (h3:∀ b,S' b→b < w.heap.size∧(C.S0 b∨C.w0.heap.size≤b∨C.F b)):RelX C σ a w { G with S:=S' }:=by
  have hle:Wd.le ⟨w,G.S⟩ ⟨w,S'⟩:=fun b hb=>⟨h1 b hb,rfl⟩
  exact { size:=h.size
          mle:=h.mle
          env:=fun t=>(h.env t).mono (Mu.le.refl _) hle
          gens:=h.gens
          mem:=fun o n mo ho=>by
            obtain ⟨g,m,k1,k2,k3⟩:=h.mem o n mo ho
            exact ⟨g,m,k1,k2,k3.mono (Mu.le.refl _) hle fun _ _=>rfl⟩
          apart:=h.apart
          stab:=h2
          own:=h.own
          sbd:=h3
          ssub:=fun b hb=>h1 b (h.ssub b hb) }
def outA (C:Ctx) (a:Act) (Inv:St→Prop):AObj where
  holds X b fp:=∃ τ G,Inv τ∧RelX C τ a X.w G∧(∀ k,G.S k→X.S k)∧(∀ k,k∈fp↔∃ o,k∈G.φ o)
  mono:=by
    rintro x y b fp hle hfp ⟨τ,G,h1,h2,h3,h4⟩
    exact ⟨τ,G,h1,h2.mono (fun b hb=>(hle b (h3 b hb)).2) (fun o b hb=>hfp b ((h4 b).2 ⟨o,hb⟩)),fun k hk=>(hle k (h3 k hk)).1,h4⟩
def recA (l D:Nat) (ds:List Deferred) (r:Loop):AObj where
  holds X b fp:=(∀ k,k∈fp↔k=l∨k=D∨markOf k∈ds)∧X.w.heap[l]?=some (.loop r)∧X.w.heap[D]?=some (.deferred (some []))∧∀ k,markOf k∈ds→X.w.heap[k]?=some (.deferred (some []))
  mono:=by
    rintro x y b fp hle hfp ⟨h1,h2,h3,h4⟩
    exact ⟨h1,(hfp l ((h1 l).2 (.inl rfl))).trans h2,(hfp D ((h1 D).2 (.inr (.inl rfl)))).trans h3,fun k hk=>(hfp k ((h1 k).2 (.inr (.inr hk)))).trans (h4 k hk)⟩
def marks (ds:List Deferred):List Nat:=ds.filterMap fun d=>match d.target with | .collected b=>some b|_=>none
theorem mem_marks {ds:List Deferred} (h:∀ d∈ds,∃ b,d=markOf b) (k:Nat):k∈marks ds↔markOf k∈ds:=by
  unfold marks
  rw [List.mem_filterMap]
  constructor
  · rintro ⟨d,hd,he⟩
    obtain ⟨b,rfl⟩:=h d hd
    simp [markOf] at he
    subst he;exact hd
  · intro hk;exact ⟨markOf k,hk,by simp [markOf]⟩
section outer
variable {C:Ctx} {σ:St} {a:Act} {w:World} {G:Gh}
theorem RelG.enter (h:RelG C σ a w G) {n9:Nat} {mo9:Option MO} (h9:σ.mem 999=(n9,mo9)) (r:Loop) :
    ∃ G1,RelX C (σ.put 999 (n9+1,some (.abs (recA (w.heap.size+1) w.heap.size a.defers r)))) a ((w.alloc (.deferred (some []))).alloc (.loop r)) G1∧G1.S=G.S∧∀ x b,b∈G1.φ x→b∈G.φ x∨w.heap.size≤b∨markOf b∈a.defers:=by
  obtain ⟨w1,hw1⟩:∃ w1,(w.alloc (.deferred (some []))).alloc (.loop r)=w1:=⟨_,rfl⟩
  have hsz:w1.heap.size=w.heap.size+2:=by rw [← hw1];simp
  have hold:∀ k,k < w.heap.size→w1.heap[k]?=w.heap[k]?:=fun k hk=>by
    rw [← hw1];exact (Below.heap_alloc _ _ _ (by simp;omega)).trans (Below.heap_alloc _ _ _ hk)
  have hl:w1.heap[w.heap.size+1]?=some (.loop r):=by
    rw [← hw1];have:=heap_alloc_new (w.alloc (.deferred (some []))) (.loop r);rwa [World.size_alloc] at this
  have hD:w1.heap[w.heap.size]?=some (.deferred (some [])):=by
    rw [← hw1];exact (Below.heap_alloc _ _ _ (by simp)).trans (heap_alloc_new w _)
  rw [hw1]
  have hds:∀ d∈a.defers,∃ b,d=markOf b:=fun d hd=>let ⟨b,e,_⟩:=h.defers d hd;⟨b,e⟩
  have hdk:∀ k,markOf k∈a.defers→C.w0.heap.size≤k∧k < w.heap.size∧w.heap[k]?=some (.deferred (some []))∧¬ G.S k∧∀ o,k ∉ G.φ o:=fun k hk=>by
    obtain ⟨b,e,h1,h2,h3,h4,h5⟩:=h.defers _ hk
    have:k=b:=by simpa [markOf] using e
    subst this
    exact ⟨h1,h2,h3,h4,h5⟩
  let fp:List Nat:=(w.heap.size+1)::w.heap.size::marks a.defers
  have hfp:∀ k,k∈fp↔k=w.heap.size+1∨k=w.heap.size∨markOf k∈a.defers:=fun k=>by
    simp only [fp,List.mem_cons,mem_marks hds]
  have hlen:(G.μ 999).length=n9:=by have:=h.gens 999;rw [h9] at this;exact this
  have hle:Wd.le ⟨w,G.S⟩ ⟨w1,G.S⟩:=fun b hb=>⟨hb,hold b (h.sbd b hb).1⟩
  have hmu:G.μ.le (fun x=>if x=999 then G.μ 999++[(some 0,0)] else G.μ x):=mu_le
  refine ⟨⟨fun x=>if x=999 then G.μ 999++[(some 0,0)] else G.μ x,G.S,fun x=>if x=999 then fp else G.φ x⟩,?_,rfl,fun x b hb=>?_⟩
  rotate_left
  · by_cases hx:x=999<;>simp only [hx,if_true,if_false] at hb
    · rcases (hfp b).1 hb with e|e|e
      · exact .inr (.inl (by omega))
      · exact .inr (.inl (by omega))
      · exact .inr (.inr e)
    · exact .inl hb
  exact { size:=h.size
          mle:=h.mle.trans hmu
          env:=fun t=>(h.env t).mono hmu hle
          gens:=fun o=>by
            by_cases ho:o=999
            · subst ho;simp [St.put,hlen]
            · simpa [St.put,ho] using h.gens o
          mem:=fun o n mo ho=>by
            by_cases hq:o=999
            · subst hq
              simp only [St.put,if_true,Prod.mk.injEq,Option.some.injEq] at ho
              obtain ⟨rfl,rfl⟩:=ho
              refine ⟨n9,(some 0,0),rfl,by simp [← hlen],0,rfl,?_⟩
              exact ⟨by simpa using hfp,hl,hD,fun k hk=>(hold k (hdk k hk).2.1).trans (hdk k hk).2.2.1⟩
            · simp only [St.put,hq,if_false] at ho
              obtain ⟨g,m,k1,k2,k3⟩:=h.mem o n mo ho
              exact ⟨g,m,k1,by simpa [hq] using k2,by simpa [hq] using k3.mono hmu hle fun k hk=>hold k (h.own o k hk).2⟩
          apart:=fun o o' b hne h1 h2=>by
            have key:∀ q,q≠999→b∈G.φ q→b∈fp→False:=fun q hq k1 k2=>by
              have:=(h.own q b k1).2
              rcases (hfp b).1 k2 with e|e|e
              · omega
              · omega
              · exact (hdk b e).2.2.2.2 q k1
            by_cases e1:o=999<;>by_cases e2:o'=999<;>simp only [e1,e2,if_true,if_false] at h1 h2
            · exact hne (e1.trans e2.symm)
            · exact key o' e2 h2 h1
            · exact key o e1 h1 h2
            · exact h.apart o o' b hne h1 h2
          stab:=fun o b hb hs=>by
            by_cases e:o=999<;>simp only [e,if_true,if_false] at hb
            · rcases (hfp b).1 hb with e|e|e
              · have:=(h.sbd b hs).1;omega
              · have:=(h.sbd b hs).1;omega
              · exact (hdk b e).2.2.2.1 hs
            · exact h.stab o b hb hs
          own:=fun o b hb=>by
            by_cases e:o=999<;>simp only [e,if_true,if_false] at hb
            · have:=h.fr.size
              rcases (hfp b).1 hb with e|e|e
              · exact ⟨.inl (by omega),by omega⟩
              · exact ⟨.inl (by omega),by omega⟩
              · exact ⟨.inl (hdk b e).1,by have:=(hdk b e).2.1;omega⟩
            · exact ⟨(h.own o b hb).1,by have:=(h.own o b hb).2;omega⟩
          sbd:=fun b hb=>⟨by have:=(h.sbd b hb).1;omega,(h.sbd b hb).2⟩
          ssub:=h.ssub }
theorem RelX.leave (h:RelX C σ a w G) {n l D:Nat} {r r':Loop} (h9:σ.mem 999=(n+1,some (.abs (recA l D a.defers r)))) (hnd:a.defers.Nodup) (hds:∀ d∈a.defers,∃ b,d=markOf b) (hDn:markOf D ∉ a.defers) (hlD:l≠D) (hln:markOf l ∉ a.defers) (hf:Fr C w) (hge:∀ k,markOf k∈markOf D::a.defers→C.w0.heap.size≤k) :
    RelG C (σ.put 999 (n+1,none)) { a with defers:=markOf D::a.defers } (w.putObj l (.loop r')) ⟨G.μ,G.S,fun x=>if x=999 then [] else G.φ x⟩∧w.heap[l]?=some (.loop r):=by
  obtain ⟨g,m,_,hm,b,_,hfp,hl,hD,hk⟩:=h.mem 999 _ _ h9
  have hl9:l∈G.φ 999:=(hfp l).2 (.inl rfl)
  have hother:∀ k,k≠l→(w.putObj l (.loop r')).heap[k]?=w.heap[k]?:=fun k hk=>World.putObj_heap_other hk
  have hle:Wd.le ⟨w,G.S⟩ ⟨w.putObj l (.loop r'),G.S⟩:=fun k hs=>⟨hs,hother k fun e=>h.stab 999 l hl9 (e ▸ hs)⟩
  refine ⟨?_,hl⟩
  exact { size:=h.size
          defers:=fun d hd=>by
            have hdk:∃ k,d=markOf k∧k∈G.φ 999∧k≠l∧w.heap[k]?=some (.deferred (some [])):=by
              rcases List.mem_cons.1 hd with rfl|hd'
              · exact ⟨D,rfl,(hfp D).2 (.inr (.inl rfl)),hlD.symm,hD⟩
              · obtain ⟨k,rfl⟩:=hds d hd'
                exact ⟨k,rfl,(hfp k).2 (.inr (.inr hd')),fun e=>hln (e ▸ hd'),hk k hd'⟩
            obtain ⟨k,rfl,k1,k2,k3⟩:=hdk
            refine ⟨k,rfl,hge k hd,by simpa using (h.own 999 k k1).2,(hother k k2).trans k3,h.stab 999 k k1,fun o ho=>?_⟩
            by_cases e:o=999<;>simp only [e,if_true,if_false] at ho
            · simp at ho
            · exact h.apart o 999 k e ho k1
          dnod:=by simpa using ⟨hDn,hnd⟩
          mle:=h.mle
          env:=fun t=>(h.env t).mono (Mu.le.refl _) hle
          gens:=fun o=>by
            by_cases e:o=999
            · subst e;have:=h.gens 999;rw [h9] at this;simpa [St.put] using this
            · simpa [St.put,e] using h.gens o
          mem:=fun o n mo ho=>by
            by_cases e:o=999
            · subst e;simp [St.put] at ho
            · simp only [St.put,e,if_false] at ho
              obtain ⟨g,m,k1,k2,k3⟩:=h.mem o n mo ho
              exact ⟨g,m,k1,k2,by simpa [e] using k3.mono (Mu.le.refl _) hle fun k hk=>hother k fun e2=>h.apart o 999 l e (e2 ▸ hk) hl9⟩
          apart:=fun o o' b hne h1 h2=>by
            by_cases e1:o=999<;>by_cases e2:o'=999<;>simp [e1,e2] at h1 h2
            exact h.apart o o' b hne h1 h2
          stab:=fun o b hb=>by
            by_cases e:o=999<;>simp [e] at hb
            exact h.stab o b hb
          own:=fun o b hb=>by
            by_cases e:o=999<;>simp [e] at hb
            simpa using h.own o b hb
          sbd:=fun b hb=>by simpa using h.sbd b hb
          ssub:=h.ssub
          fr:=⟨hf.os,⟨hf.tape.eq,hf.tape.le⟩,hf.output,by simpa using hf.size,fun k hk hF=>(hother k fun e=>by
            rcases (h.own 999 l hl9).1 with h1|h1
            · omega
            · exact hF (e ▸ h1)).trans (hf.block k hk hF)⟩ }
end outer
end Go.Aw
/- THE ABSTRACT WALK, part 17: a round; the statement that ranges over a function; the contract of such a function. Nothing here speaks of a program. -/
namespace Go.Aw
open Go Go.RowKit
set_option linter.unusedVariables false
set_option linter.unusedSimpArgs false
theorem RelG.recTurn {C:Ctx} {σ:St} {a:Act} {w:World} {G:Gh} (h:RelG C σ a w G) {n l D:Nat} {ds:List Deferred} {r:Loop} (r':Loop) (h9:σ.mem 999=(n+1,some (.abs (recA l D ds r)))) :
    w.heap[l]?=some (.loop r)∧∃ G',RelG C (σ.put 999 (n+1,some (.abs (recA l D ds r')))) a (w.putObj l (.loop r')) G'∧G'.S=G.S∧G'.μ=G.μ∧G'.φ=G.φ:=by
  obtain ⟨g,m,hg,hm,b,hb,hfp,hl,hD,hk⟩:=h.mem 999 _ _ h9
  have hl9:l∈G.φ 999:=(hfp l).2 (.inl rfl)
  have hlt:l < w.heap.size:=(h.own 999 l hl9).2
  refine ⟨hl,_,h.upd (o:=999) (n':=n+1) (mo':=some (.abs (recA l D ds r'))) (μo:=G.μ 999) (fp':=G.φ 999) (fun _ _ hx=>hx) (by have:=h.gens 999;rw [h9] at this;exact this) rfl .same rfl (by simp)
    (fun k _ hn=>World.putObj_heap_other fun e=>hn (e ▸ hl9)) (fun k hk=>⟨.inl hk,by simpa using (h.own 999 k hk).2⟩) (fun mo hmo=>by
      obtain rfl:=Option.some.inj hmo
      refine ⟨g,m,hg,hm,b,hb,hfp,World.putObj_heap_same hlt,?_,fun k hk'=>?_⟩
      · have hne:D≠l:=fun e=>by rw [e] at hD;rw [hl] at hD;cases hD
        exact (World.putObj_heap_other hne).trans hD
      · have hne:k≠l:=fun e=>by have:=hk k hk';rw [e,hl] at this;cases this
        exact (World.putObj_heap_other hne).trans (hk k hk')),rfl,?_,?_⟩
  · funext x;by_cases hx:x=999<;>simp [hx]
  · funext x;by_cases hx:x=999<;>simp [hx]
open Classical in
theorem fp_list {w:World} {φ:Nat→List Nat} (h:∀ o b,b∈φ o→b < w.heap.size):∃ l:List Nat,∀ k,k∈l↔∃ o,k∈φ o:=
  ⟨(List.range w.heap.size).filter fun b=>decide (∃ o,b∈φ o),fun k=>by
    rw [List.mem_filter]
    constructor
    · rintro ⟨_,h2⟩;exact of_decide_eq_true h2
    · rintro ⟨o,ho⟩;exact ⟨List.mem_range.2 (h o k ho),decide_eq_true ⟨o,ho⟩⟩⟩
theorem fr_mem {σ τ:St} {W M:List Nat} {m:List (Nat × (Nat × Option MO))} (h:Fr' σ W [] M m τ) (hm:m.all (fun p=>memb M p.1)=true) {t:Nat} (ht:memb M t=false):τ.mem t=σ.mem t:=by
  obtain ⟨β,γ,rfl⟩:=h
  have key:∀ (l:List (Nat × (Nat × Option MO))) (f:Nat→Nat × Option MO),l.all (fun p=>memb M p.1)=true→ovl l f t=f t:=by
    intro l
    induction l with
    | nil=>intro f _;rfl
    | cons p l ih=>
      intro f hl
      obtain ⟨k,v⟩:=p
      simp only [List.all_cons,Bool.and_eq_true] at hl
      have:t≠k:=fun e=>by rw [e,hl.1] at ht;cases ht
      simp only [ovl,this,if_false];exact ih f hl.2
  simp only [St.fr]
  rw [key m _ hm,ht];rfl
section round
variable {C:Ctx} {a:Act} {σ:St} {l D n9:Nat} {fn:FuncId} {assign body:Code} {p:Nat}
def recOf (fn:FuncId) (a:Act) (p:Nat) (assign body:Code) (D:Nat) (st:LoopState):Loop:={ state:=st,pending:=none,fn,tmps:=a.tmps,params:=#[p],assign,body,defers:=D }
def recM (l D:Nat) (ds:List Deferred) (r:Loop):MO:=.abs (recA l D ds r)
def between {ι:Type} (σ:St) (n9:Nat) (R:MO) (M:List Nat) (m:ι→List (Nat × (Nat × Option MO))) (Pk:Nat→ι→Prop) (k:Nat) (τ:St):Prop:=∃ i,Pk k i∧Fr' (σ.put 999 (n9+1,some R)) [] [] M (m i) τ
theorem yok_round {ι:Type} {M W:List Nat} {m:ι→List (Nat × (Nat × Option MO))} {Pk:Nat→ι→Prop} {k:Nat} {x:AV} [hx:PureAV x] {w1:World} {F1 S1:Nat→Prop} (hFr:Fr C w1) (hF1:∀ b,F1 b→C.w0.heap.size≤b∨C.F b) (hS1:∀ b,S1 b→C.S0 b∨C.w0.heap.size≤b∨C.F b)
    (hM:memb M 999=false) (hm:∀ i,(m i).all (fun q=>memb M q.1)=true) (hp:Nat.ble (p+1) C.N=true)
    (hround:∀ i γ (w0:World) (F S0:Nat→Prop) (M0:Mu) (l:Nat) (R R':MO),Pk k i→AWs ⟨C.P,w0,F,S0,C.N,some l,M0⟩ [assign] (fun e s1=>e=.normal∧s1.mem 999=(n9+1,some R)∧
      AWs ⟨C.P,w0,F,S0,C.N,some l,M0⟩ [body] (fun e s2=>e=.normal∧∃ j τ,Pk (k+1) j∧Says ⟨C.P,w0,F,S0,C.N,some l,M0⟩ s2 τ∧Fr' (σ.put 999 (n9+1,some R')) W [] M (m j) τ) (s1.put 999 (n9+1,some R')))
      (((σ.put 999 (n9+1,some R)).fr [] σ.env [] M γ (m i)).set (some p) x)) :
    YOk C.P w1 F1 S1 (.func (.yield l) #[] #[]) x 1000 (1,some (.abs (outA C a (between σ n9 (recM l D a.defers (recOf fn a p assign body D .ready)) M m Pk k))))
      (1,some (.abs (outA C a (between σ n9 (recM l D a.defers (recOf fn a p assign body D .ready)) M m Pk (k+1))))):=by
  intro w Gi mem v hO hF hSb hm0 hv
  obtain ⟨g,mm,hg,hmm,b,hb1,τ,G,⟨i,hP,hτ⟩,hX,hS,hφ⟩:=hO.mem 1000 _ _ hm0
  obtain rfl:g=0:=by omega
  have hsz:C.w0.heap.size≤w.heap.size:=Nat.le_trans hFr.size hF.size
  have hX1:RelX C τ a w { G with S:=Gi.S }:=hX.more hS (fun o c hc=>hO.stab 1000 c ((hφ c).2 ⟨o,hc⟩)) (fun c hc=>⟨hO.sbd c hc,by
    rcases hSb c hc with h1|h1|h1
    · exact hS1 c h1
    · exact .inr (.inl (Nat.le_trans hFr.size h1))
    · exact .inr (hF1 c h1)⟩)
  have hτ9:τ.mem 999=(n9+1,some (recM l D a.defers (recOf fn a p assign body D .ready))):=by rw [fr_mem hτ (hm i) hM];simp [St.put]
  have hvx:x.holds Mu.none ⟨w,Gi.S⟩ v:=hx.pure _ _ _ hv
  -- the round's frame
  have hR0:RelG ⟨C.P,w,fun c=>c∈Gi.φ 1000,Gi.S,C.N,some l,G.μ⟩ τ { tmps:=a.tmps,defers:=[] } w { G with S:=Gi.S }:={
    size:=hX1.size
    defers:=fun d hd=>by simp at hd
    dnod:=by simp
    mle:=Mu.le.refl _
    env:=hX1.env
    gens:=hX1.gens
    mem:=hX1.mem
    apart:=hX1.apart
    stab:=hX1.stab
    own:=fun o c hc=>⟨.inr ((hφ c).2 ⟨o,hc⟩),(hX1.own o c hc).2⟩
    sbd:=fun c hc=>⟨(hX1.sbd c hc).1,.inl hc⟩
    ssub:=fun c hc=>hc
    fr:=⟨rfl,.same,rfl,Nat.le_refl _,fun _ _ _=>rfl⟩ }
  obtain ⟨hl , -⟩:=hR0.recTurn (recOf fn a p assign body D .busy) hτ9
  have hR1:=hR0.setv (d:=some p) (val:=x) (v:=v) hp (hvx.mono (Mu.none_le _) (Wd.le.refl _))
  obtain ⟨βτ,γτ,hτe⟩:=hτ
  have hτ':τ=(σ.put 999 (n9+1,some (recM l D a.defers (recOf fn a p assign body D .ready)))).fr [] σ.env [] M γτ (m i):=by rw [hτe];rfl
  refine ⟨l,fn,_,assign,body,rfl,run_yield hl (by simp [recOf]),?_⟩
  have hAct:((#[p]:Array Tmp).zip #[v]).foldl (fun tmps (t,c)=>tmps.setIfInBounds t c) a.tmps=a.tmps.setIfInBounds p v:=by simp
  refine roundIn_of_wpIn (F:=fz none) trivial ?_
  show assign.wpIn (fz (some l)) 0 C.P _ { tmps:=((#[p]:Array Tmp).zip #[v]).foldl (fun tmps (t,c)=>tmps.setIfInBounds t c) a.tmps,defers:=[] } w
  rw [hAct]
  have hA:=aws_one (hround i γτ w (fun c=>c∈Gi.φ 1000) Gi.S G.μ l (recM l D a.defers (recOf fn a p assign body D .ready)) (recM l D a.defers (recOf fn a p assign body D .busy)) hP)
  rw [← hτ'] at hA
  refine wpIn_mono (hA _ w ⟨_,hR1⟩) ?_
  rintro e a1 w2 ⟨s1,⟨rfl,h19,hB⟩,G1,hG1⟩
  obtain ⟨hl1,G2,hG2,e1,e2,e3⟩:=hG1.recTurn (recOf fn a p assign body D .busy) h19
  refine ⟨_,run_beginRound hl1 rfl,?_⟩
  refine wpIn_mono (aws_one hB _ _ ⟨G2,hG2⟩) ?_
  rintro e a2 w3 ⟨s2,⟨rfl,j,τ2,hPj,hsays,hfr2⟩,hrel⟩
  obtain ⟨G3,hG3⟩:=hsays _ _ hrel
  have h29:τ2.mem 999=(n9+1,some (recM l D a.defers (recOf fn a p assign body D .busy))):=by rw [fr_mem hfr2 (hm j) hM];simp [St.put]
  obtain ⟨hl3,G4,hG4,f1,f2,f3⟩:=hG3.recTurn (recOf fn a p assign body D .ready) h29
  have hend:(Instr.endRound l none).run C.P w3=.ok (.bool true) (w3.putObj l (.loop (recOf fn a p assign body D .ready))):=by have:=run_endRound (P:=C.P) none hl3;simpa [recOf] using this
  generalize hw4:w3.putObj l (.loop (recOf fn a p assign body D .ready))=w4 at hG4 hend
  refine ⟨.bool true,w4,hend,rfl,?_⟩
  -- behind the round
  obtain ⟨fp,hfp⟩:=fp_list (w:=w4) (φ:=G4.φ) fun o c hc=>(hG4.own o c hc).2
  have hkeep:∀ c,c < w.heap.size→c ∉ Gi.φ 1000→w4.heap[c]?=w.heap[c]?:=fun c h1 h2=>hG4.fr.block c h1 h2
  have hle:Wd.le ⟨w,Gi.S⟩ ⟨w4,G4.S⟩:=fun c hc=>⟨hG4.ssub c hc,hkeep c (hO.sbd c hc) fun h1=>hO.stab 1000 c h1 hc⟩
  have hfpw:∀ c,c∈fp→(w.heap.size≤c∨c∈Gi.φ 1000)∧c < w4.heap.size:=fun c hc=>by
    obtain ⟨o,ho⟩:=(hfp c).1 hc
    exact hG4.own o c ho
  obtain ⟨γ2,hγ2⟩:∃ γ2,(τ2.put 999 (n9+1,some (recM l D a.defers (recOf fn a p assign body D .ready)))).mem=((σ.put 999 (n9+1,some (recM l D a.defers (recOf fn a p assign body D .ready)))).fr [] σ.env [] M γ2 (m j)).mem:=by
    obtain ⟨β2,γ2,hτ2⟩:=hfr2
    refine ⟨γ2,funext fun t=>?_⟩
    by_cases ht:t=999
    · subst ht
      have:=fr_mem (σ:=σ.put 999 (n9+1,some (recM l D a.defers (recOf fn a p assign body D .ready)))) (W:=[]) (M:=M) (m:=m j) ⟨σ.env,γ2,rfl⟩ (hm j) hM
      rw [this];simp [St.put]
    · simp only [St.put,ht,if_false]
      rw [hτ2]
      simp only [St.fr]
      refine ovl_mem ?_
      simp [St.put,ht]
  refine ⟨⟨Gi.μ,G4.S,fun o=>if o=1000 then fp else Gi.φ o⟩,?_,hG4.ssub,fun c hc=>by
    rcases (hG4.sbd c hc).2 with h1|h1|h1
    · exact .inl h1
    · exact .inr (.inl h1)
    · exact .inr (.inr h1),fun o c hc=>?_,Mu.le.refl _,⟨hG4.fr.os,hG4.fr.tape,hG4.fr.output,hG4.fr.size,hkeep⟩⟩
  · exact {
      gens:=fun o=>by
        by_cases ho:o=1000
        · subst ho;have:=hO.gens 1000;rw [hm0] at this;simpa [putsM] using this
        · simpa [putsM,ho] using hO.gens o
      mem:=fun o n mo ho=>by
        by_cases hq:o=1000
        · subst hq
          simp only [putsM,if_true,Prod.mk.injEq,Option.some.injEq] at ho
          obtain ⟨rfl,rfl⟩:=ho
          refine ⟨0,mm,rfl,hmm,b,hb1,⟨σ.env,(τ2.put 999 (n9+1,some (recM l D a.defers (recOf fn a p assign body D .ready)))).mem⟩,G4,⟨j,hPj,σ.env,γ2,?_⟩,?_,fun c hc=>hc,by simpa using hfp⟩
          · exact st_eq rfl hγ2
          · exact {
              size:=hX1.size
              mle:=hX1.mle.trans hG4.mle
              env:=fun t=>by
                have h1:=hX1.env t
                have h2:τ.env=σ.env:=by rw [hτ'];rfl
                rw [h2] at h1
                exact h1.mono hG4.mle hle
              gens:=hG4.gens
              mem:=hG4.mem
              apart:=hG4.apart
              stab:=hG4.stab
              own:=fun o c hc=>⟨by
                rcases (hG4.own o c hc).1 with h1|h1
                · exact .inl (Nat.le_trans hsz h1)
                · obtain ⟨q,hq⟩:=(hφ c).1 h1
                  exact (hX1.own q c hq).1,(hG4.own o c hc).2⟩
              sbd:=fun c hc=>⟨(hG4.sbd c hc).1,by
                rcases (hG4.sbd c hc).2 with h1|h1|h1
                · exact (hX1.sbd c h1).2
                · exact .inr (.inl (Nat.le_trans hsz h1))
                · obtain ⟨q,hq⟩:=(hφ c).1 h1
                  exact .inr (hX1.own q c hq).1⟩
              ssub:=fun c hc=>hG4.ssub c (hX1.ssub c hc) }
        · simp only [putsM,hq,if_false] at ho
          obtain ⟨g,m',k1,k2,k3⟩:=hO.mem o n mo ho
          refine ⟨g,m',k1,k2,?_⟩
          simp only [hq,if_false]
          exact k3.mono (Mu.le.refl _) hle fun c hc=>hkeep c (hO.own o c hc) fun h1=>hO.apart o 1000 c hq hc h1
      apart:=fun o o' c hne h1 h2=>by
        have key:∀ q,q≠1000→c∈Gi.φ q→c∈fp→False:=fun q hq k1 k2=>by
          rcases (hfpw c k2).1 with h3|h3
          · have:=hO.own q c k1;omega
          · exact hO.apart q 1000 c hq k1 h3
        by_cases e1:o=1000<;>by_cases e2:o'=1000<;>simp only [e1,e2,if_true,if_false] at h1 h2
        · exact hne (e1.trans e2.symm)
        · exact key o' e2 h2 h1
        · exact key o e1 h1 h2
        · exact hO.apart o o' c hne h1 h2
      stab:=fun o c hc hs=>by
        by_cases e:o=1000<;>simp only [e,if_true,if_false] at hc
        · obtain ⟨q,hq⟩:=(hfp c).1 hc
          exact hG4.stab q c hq hs
        · rcases (hG4.sbd c hs).2 with h1|h1|h1
          · exact hO.stab o c hc h1
          · have:=hO.own o c hc
            have h2:w.heap.size≤c:=h1
            omega
          · exact hO.apart o 1000 c e hc h1
      own:=fun o c hc=>by
        by_cases e:o=1000<;>simp only [e,if_true,if_false] at hc
        · exact (hfpw c hc).2
        · exact Nat.lt_of_lt_of_le (hO.own o c hc) hG4.fr.size
      sbd:=fun c hc=>(hG4.sbd c hc).1 }
  · by_cases e:o=1000<;>simp only [e,if_true,if_false] at hc
    · subst e
      rcases (hfpw c hc).1 with h1|h1
      · exact .inr (.inl h1)
      · exact .inl h1
    · exact .inl hc
end round
end Go.Aw
/- THE ABSTRACT WALK, part 18: the contract of a function that is ranged over; the statement. Nothing here speaks of a program. -/
namespace Go.Aw
open Go Go.RowKit
set_option linter.unusedVariables false
set_option linter.unusedSimpArgs false
def ICall (P:Program) (f:FuncId) (caps:List PVal) (xs:List AV):Prop:=
  ∀ (w:World) (G:Gh) (I:Nat→AObj) (yv:Value) (ys:List Value),ObjG (memL [(1000,(1,some (.abs (I 0))))]) w G→yv.oneCell'=true→All2 (fun p c=>p.holds ⟨w,G.S⟩ c) caps ys→
    (∀ k x,xs[k]?=some x→YOk P w (fun b=>∃ o,b∈G.φ o) G.S yv x 1000 (1,some (.abs (I k))) (1,some (.abs (I (k+1)))))→
    Calls P f (yv::ys).toArray w (OPost (.tup []) (memL [(1000,(1,some (.abs (I xs.length))))]) w G)
class IC (P:Program) (f:FuncId) (caps:List PVal) (pre:outParam Prop) (xs:outParam (List AV)):Prop where
  call:pre→ICall P f caps xs
theorem icall_of {P:Program} {f:FuncId} {fn:Func} {body:Code} {caps:List PVal} {xs:List AV} (hf:P.funcs[f]?=some fn) (hb:fn.body=some body)
    (h:∀ w0 F S0 M0 (I:Nat→AObj) (yv:Value),yv.oneCell'=true→(∀ k x,xs[k]?=some x→YOk P w0 F S0 yv x 1000 (1,some (.abs (I k))) (1,some (.abs (I (k+1)))))→
      AWs ⟨P,w0,F,S0,max (caps.length+1) fn.ntmps,none,M0⟩ [body] (RetO P fn (.tup []) (kIn [(1000,(1,some (.abs (I xs.length))))]) (memL [(1000,(1,some (.abs (I xs.length))))])) ⟨fun t=>(.p (.v yv)::caps.map .p:List AV).getD t .un,memL [(1000,(1,some (.abs (I 0))))]⟩):ICall P f caps xs:=by
  intro w G I yv ys hO hone hcaps hY
  have ha:All2 (AV.holds G.μ ⟨w,G.S⟩) (.p (.v yv)::caps.map .p) (yv::ys):=by
    refine .cons ⟨rfl,hone⟩ ⟨by simpa using hcaps.1,fun i c v hc hv=>?_⟩
    rw [List.getElem?_map] at hc
    cases hp:caps[i]? with
    | none=>rw [hp] at hc;cases hc
    | some q=>rw [hp] at hc;simp at hc;subst hc;exact hcaps.2 i q v hp hv
  have hN:max (caps.length+1) fn.ntmps=max (.p (.v yv)::caps.map AV.p:List AV).length fn.ntmps:=by simp
  have h1:=h w (fun b=>∃ o,b∈G.φ o) G.S G.μ I yv hone hY
  rw [hN] at h1
  exact ocall_at (kIn [(1000,(1,some (.abs (I xs.length))))]) hf hb (fun o ho=>by
    have:o≠1000:=fun e=>by subst e;simp [kIn] at ho
    simp [memL,this]) hO ha h1
theorem aws_range {ι:Type} {C:Ctx} {Q:Exit→St→Prop} {σ:St} {k:List Code} {g:Operand} {assign body:Code} {p gf n9:Nat} {mo9:Option MO} {caps:List PVal} {xs:List AV} (W M:List Nat) (m:ι→List (Nat × (Nat × Option MO))) (Pk:Nat→ι→Prop) (i₀:ι)
    (hg:σ.look g=.p (.fnv gf caps)) (hfn:FnT C.P gf) (hI:ICall C.P gf caps xs) (hro:C.ro=none) (hx:∀ x∈xs,PureAV x) (h9:σ.mem 999=(n9,mo9)) (hM:memb M 999=false) (hm:∀ i,(m i).all (fun q=>memb M q.1)=true) (hp:Nat.ble (p+1) C.N=true)
    (h0:Pk 0 i₀) (hm0:Knows σ.mem (m i₀))
    (hround:∀ j x,xs[j]?=some x→∀ i γ (w0:World) (F S0:Nat→Prop) (M0:Mu) (l:Nat) (R R':MO),Pk j i→AWs ⟨C.P,w0,F,S0,C.N,some l,M0⟩ [assign] (fun e s1=>e=.normal∧s1.mem 999=(n9+1,some R)∧
      AWs ⟨C.P,w0,F,S0,C.N,some l,M0⟩ [body] (fun e s2=>e=.normal∧∃ i' τ,Pk (j+1) i'∧Says ⟨C.P,w0,F,S0,C.N,some l,M0⟩ s2 τ∧Fr' (σ.put 999 (n9+1,some R')) W [] M (m i') τ) (s1.put 999 (n9+1,some R')))
      (((σ.put 999 (n9+1,some R)).fr [] σ.env [] M γ (m i)).set (some p) x))
    (hk:∀ i γ,Pk xs.length i→AWs C k Q ((σ.put 999 (n9+1,none)).fr [] σ.env [] M γ (m i))):AWs C (.rangeFunc g #[p] assign body::k) Q σ:=by
  intro a w ⟨G,hG⟩
  refine wpIn_rangeFunc ?_
  intro fn _
  rw [hro]
  obtain ⟨ys,hgv,hcaps⟩:=look_of hG hg
  have hsz:=hG.fr.size
  obtain ⟨w1,hw1⟩:∃ w1,(w.alloc (.deferred (some []))).alloc (.loop (recOf fn a p assign body w.heap.size .ready))=w1:=⟨_,rfl⟩
  obtain ⟨G1,hX,hS1 , -⟩:=hG.enter h9 (recOf fn a p assign body w.heap.size .ready)
  rw [hw1] at hX
  have hw1s:w1.heap.size=w.heap.size+2:=by rw [← hw1];simp
  have hold:∀ b,b < w.heap.size→w1.heap[b]?=w.heap[b]?:=fun b hb=>by
    rw [← hw1];exact (Below.heap_alloc _ _ _ (by simp;omega)).trans (Below.heap_alloc _ _ _ hb)
  have hFr1:Fr C w1:=⟨by rw [← hw1];exact hG.fr.os,by rw [← hw1];exact ⟨hG.fr.tape.eq,hG.fr.tape.le⟩,by rw [← hw1];exact hG.fr.output,by omega,fun b hb hF=>(hold b (by omega)).trans (hG.fr.block b hb hF)⟩
  obtain ⟨fp,hfp⟩:=fp_list (w:=w1) (φ:=G1.φ) fun o c hc=>(hX.own o c hc).2
  have hdk:∀ b,markOf b∈a.defers→C.w0.heap.size≤b∧b < w.heap.size:=fun b hb=>by
    obtain ⟨c,e,h1,h2,_⟩:=hG.defers _ hb
    have:b=c:=by simpa [markOf] using e
    subst this;exact ⟨h1,h2⟩
  have hO:ObjG (memL [(1000,(1,some (.abs (outA C a (between σ n9 (recM (w.heap.size+1) w.heap.size a.defers (recOf fn a p assign body w.heap.size .ready)) M m Pk 0)))))]) w1 ⟨fun o=>if o=1000 then [(some 0,0)] else [],G.S,fun o=>if o=1000 then fp else []⟩:={
    gens:=fun o=>by by_cases ho:o=1000<;>simp [memL,ho]
    mem:=fun o n mo ho=>by
      by_cases hq:o=1000
      · subst hq
        simp only [memL,if_true,Prod.mk.injEq,Option.some.injEq] at ho
        obtain ⟨rfl,rfl⟩:=ho
        refine ⟨0,(some 0,0),rfl,by simp,0,rfl,_,G1,⟨i₀,h0,Fr'.mk .refl .nil ?_⟩,hX,fun b hb=>by rw [hS1] at hb;exact hb,by simpa using hfp⟩
        have key:∀ (l:List (Nat × (Nat × Option MO))),l.all (fun q=>memb M q.1)=true→Knows σ.mem l→Knows (σ.put 999 (n9+1,some (recM (w.heap.size+1) w.heap.size a.defers (recOf fn a p assign body w.heap.size .ready)))).mem l:=by
          intro l hl hkn
          induction hkn with
          | nil=>exact .nil
          | cons h hl' ih=>
            simp only [List.all_cons,Bool.and_eq_true] at hl
            refine .cons ?_ (ih hl.2)
            have:∀ q,memb M q=true→q≠999:=fun q hq e=>by rw [e,hM] at hq;cases hq
            simp only [St.put,this _ hl.1,if_false];exact h
        exact key _ (hm i₀) hm0
      · simp [memL,hq] at ho
    apart:=fun o o' b hne h1 h2=>by
      by_cases e1:o=1000<;>by_cases e2:o'=1000<;>simp [e1,e2] at h1 h2
      exact hne (e1.trans e2.symm)
    stab:=fun o b hb hs=>by
      by_cases e:o=1000<;>simp [e] at hb
      obtain ⟨q,hq⟩:=(hfp b).1 hb
      exact hX.stab q b hq (by rw [hS1];exact hs)
    own:=fun o b hb=>by
      by_cases e:o=1000<;>simp [e] at hb
      obtain ⟨q,hq⟩:=(hfp b).1 hb
      exact (hX.own q b hq).2
    sbd:=fun b hb=>by have:=(hG.sbd b hb).1;omega }
  have hF1:∀ b,(∃ o,b∈(if o=1000 then fp else []))→C.w0.heap.size≤b∨C.F b:=by
    rintro b ⟨o,ho⟩
    by_cases e:o=1000<;>simp [e] at ho
    obtain ⟨q,hq⟩:=(hfp b).1 ho
    exact (hX.own q b hq).1
  obtain ⟨fnn,k1,k2,k3⟩:=hfn.fn
  have hname : ¬ fnn.name = "runtime.NumGoroutine" := by simpa using k2
  have eg:∀ (args:Array Value) (w:World),(callFunc gf args).run C.P w=.ok (.enter gf args) w:=fun args w=>by
    cases hbody:fnn.body with
    | none=>simp [hbody] at k3
    | some c=>simp [callFunc,program,Sem.run,Sem.run_bind,k1,hbody,pure,hname]
  refine ⟨w.heap.size+1,[markOf w.heap.size],w1,{ target:=.fn (.func gf) ys.toArray,args:=#[.func (.yield (w.heap.size+1)) #[] #[]] },w1,gf,#[.func (.yield (w.heap.size+1)) #[] #[]]++ys.toArray,w1,?_,?_,?_,?_,by simp [fz,Fence.wide],?_⟩
  · rw [← hw1];exact run_enterLoop_outer _ _ _ _ _
  · simp only [resolve,hgv]
    simp [go_sem]
  · intro f' _;trivial
  · simp only [invoke];exact eg _ _
  · have hcall:=hI w1 _ (fun j=>outA C a (between σ n9 (recM (w.heap.size+1) w.heap.size a.defers (recOf fn a p assign body w.heap.size .ready)) M m Pk j)) (.func (.yield (w.heap.size+1)) #[] #[]) ys hO rfl
      (hcaps.mono fun q c hq=>q.mono (x:=⟨w,G.S⟩) (fun b hb=>⟨hb,hold b (hG.sbd b hb).1⟩) hq)
      (fun j x hj=>by
        have:PureAV x:=hx x (List.mem_of_getElem? hj)
        exact yok_round (C:=C) (a:=a) (σ:=σ) (W:=W) hFr1 hF1 (fun b hb=>(hG.sbd b hb).2) hM hm hp (hround j x hj))
    have e : #[Value.func (.yield (w.heap.size+1)) #[] #[]]++ys.toArray=(Value.func (.yield (w.heap.size+1)) #[] #[]::ys).toArray:=by apply Array.toList_inj.1;simp
    rw [e]
    refine (callsIn_wide (n:=0)).2 (hcall.mono ?_)
    rintro e w' ⟨v,G',rfl,_,hO',q1,q2,q3,q4,q5⟩
    obtain ⟨g',mm,_,_,b,_,τ,G2,⟨i,hPi,hτ⟩,hX2,hS2,hφ2⟩:=hO'.mem 1000 1 _ rfl
    have hFr':Fr C w':=⟨q5.os.trans hFr1.os,q5.tape.trans hFr1.tape,q5.output.trans hFr1.output,Nat.le_trans hFr1.size q5.size,fun b hb hF=>(q5.block b (Nat.lt_of_lt_of_le hb hFr1.size) fun hc=>by
      rcases hF1 b hc with h1|h1
      · omega
      · exact hF h1).trans (hFr1.block b hb hF)⟩
    have hτ9:τ.mem 999=(n9+1,some (recM (w.heap.size+1) w.heap.size a.defers (recOf fn a p assign body w.heap.size .ready))):=by rw [fr_mem hτ (hm i) hM];simp [St.put]
    obtain ⟨hrel,hl⟩:=hX2.leave (r':={ recOf fn a p assign body w.heap.size .ready with state:=.exhausted }) hτ9 hG.dnod (fun d hd=>let ⟨b,e,_⟩:=hG.defers d hd;⟨b,e⟩) (fun hc=>by have:=(hdk _ hc).2;omega) (by omega) (fun hc=>by have:=(hdk _ hc).2;omega) hFr' (fun b hb=>by
      rcases List.mem_cons.1 hb with h1|h1
      · have:b=w.heap.size:=by simpa [markOf] using h1
        omega
      · exact (hdk b h1).1)
    refine ⟨none,_,run_endLoop hl (by simp [recOf]),?_⟩
    obtain ⟨βτ,γτ,hτe⟩:=hτ
    have hst:τ.put 999 (n9+1,none)=(σ.put 999 (n9+1,none)).fr [] σ.env [] M γτ (m i):=by
      refine st_eq (by rw [hτe];rfl) (funext fun t=>?_)
      by_cases ht:t=999
      · subst ht
        have:=fr_mem (σ:=σ.put 999 (n9+1,none)) (W:=[]) (M:=M) (m:=m i) ⟨σ.env,γτ,rfl⟩ (hm i) hM
        rw [this];simp [St.put]
      · simp only [St.put,ht,if_false]
        rw [hτe]
        simp only [St.fr]
        refine ovl_mem ?_
        simp [St.put,ht]
    rw [hst] at hrel
    exact ⟨_,hk i γτ hPi,_,hrel⟩
end Go.Aw
/- THE ABSTRACT WALK, part 19: functions' values; words; arrays whose cells are mapped. Nothing here speaks of a program. -/
namespace Go.Aw
open Go Go.RowKit
set_option linter.unusedVariables false
set_option linter.unusedSimpArgs false
/-! ### Words -/
def md:IntKind→Nat
  | .i8 | .u8=>256
  | .i16 | .u16=>65536
  | .i32 | .u32=>4294967296
  | .i64 | .u64=>18446744073709551616
theorem wrap_md {k:IntKind} (hs:k.signed=false) (n:Nat):k.wrap (n:Int)=((n % md k:Nat):Int):=by
  cases k<;>simp [IntKind.signed] at hs<;>simp [IntKind.wrap,IntKind.bits,IntKind.signed,md]
theorem bits_md (k:IntKind):2 ^ k.bits=md k:=by cases k<;>rfl
theorem ofInt_nat {B:Nat} (n:Nat):(BitVec.ofInt B (n:Int)).toNat=n % 2 ^ B:=by simp [BitVec.toNat_ofInt]
theorem bits_nat {k:IntKind} (hs:k.signed=false) (a b:Nat) :
    bits .and k a b=((a % md k&&& b % md k:Nat):Int)∧bits .or k a b=((a % md k||| b % md k:Nat):Int)∧bits .xor k a b=(((a % md k) ^^^ (b % md k):Nat):Int):=by
  have ha:a % md k < 2 ^ k.bits:=by rw [bits_md];exact Nat.mod_lt _ (by cases k<;>decide)
  have hb:b % md k < 2 ^ k.bits:=by rw [bits_md];exact Nat.mod_lt _ (by cases k<;>decide)
  refine ⟨?_,?_,?_⟩
  · simp only [bits,BitVec.toNat_and,ofInt_nat,bits_md,wrap_md hs]
    rw [Nat.mod_eq_of_lt (a:=_&&& _)]
    have:=Nat.and_lt_two_pow (a % md k) hb;rwa [bits_md] at this
  · simp only [bits,BitVec.toNat_or,ofInt_nat,bits_md,wrap_md hs]
    rw [Nat.mod_eq_of_lt (a:=_||| _)]
    have:=Nat.or_lt_two_pow ha hb;rwa [bits_md] at this
  · simp only [bits,BitVec.toNat_xor,ofInt_nat,bits_md,wrap_md hs]
    rw [Nat.mod_eq_of_lt (a:=_ ^^^ _)]
    have:=Nat.xor_lt_two_pow ha hb;rwa [bits_md] at this
section words
variable {C:Ctx} {o:Oper} {σ:St} {t t':TypeId} {x y:Operand} {k k':IntKind} {a b:Nat} {m n:Int}
theorem lop_wadd (ho:o.op=.binOp .add t x y t') (hx:σ.look x=.p (.v (.int k (a:Int)))) (hy:σ.look y=.p (.v (.int k (b:Int)))) (hs:k.signed=false) (hd:dOk C o.dst=true):LOp C o σ ⟨.p (.v (.int k (((a+b) % md k:Nat):Int))),[]⟩ (fun _=>false):=by
  have:=lop_add ho hx hy hd;rwa [← Int.natCast_add,wrap_md hs] at this
theorem lop_wmul (ho:o.op=.binOp .mul t x y t') (hx:σ.look x=.p (.v (.int k (a:Int)))) (hy:σ.look y=.p (.v (.int k (b:Int)))) (hs:k.signed=false) (hd:dOk C o.dst=true):LOp C o σ ⟨.p (.v (.int k (((a * b) % md k:Nat):Int))),[]⟩ (fun _=>false):=by
  have:=lop_mul ho hx hy hd;rwa [← Int.natCast_mul,wrap_md hs] at this
theorem lop_wsub (ho:o.op=.binOp .sub t x y t') (hx:σ.look x=.p (.v (.int k (a:Int)))) (hy:σ.look y=.p (.v (.int k (b:Int)))) (hs:k.signed=false) (hd:dOk C o.dst=true):LOp C o σ ⟨.p (.v (.int k (((a+(md k - b % md k)) % md k:Nat):Int))),[]⟩ (fun _=>false):=by
  have:=lop_sub ho hx hy hd
  have e:k.wrap ((a:Int) - b)=(((a+(md k - b % md k)) % md k:Nat):Int):=by
    have hb:b % md k < md k:=Nat.mod_lt _ (by cases k<;>decide)
    have hm:0 < md k:=by cases k<;>decide
    have e2:((a:Int) - b) % (2 ^ k.bits:Int)=(((a+(md k - b % md k)) % md k:Nat):Int):=by
      have h2:(2 ^ k.bits:Int)=(md k:Int):=by rw [← bits_md];simp
      rw [h2,Int.natCast_emod,Int.natCast_add,Int.natCast_sub (Nat.le_of_lt hb),Int.natCast_emod]
      rw [show (a:Int)+((md k:Int) - (b:Int) % md k)=(a - (b:Int) % md k)+md k from by omega,Int.add_emod_right,Int.sub_emod_emod]
    unfold IntKind.wrap
    simp only [e2,hs,Bool.false_and,Bool.false_eq_true,if_false]
  rwa [e] at this
theorem lop_wquo (ho:o.op=.binOp .quo t x y t') (hx:σ.look x=.p (.v (.int k (a:Int)))) (hy:σ.look y=.p (.v (.int k (b:Int)))) (hb:0 < b) (hs:k.signed=false) (hd:dOk C o.dst=true):LOp C o σ ⟨.p (.v (.int k (((a / b) % md k:Nat):Int))),[]⟩ (fun _=>false):=by
  have:=lop_quo ho hx hy (by omega) hd
  rwa [show (a:Int).tdiv b=((a / b:Nat):Int) from by rw [Int.tdiv_eq_ediv_of_nonneg (by omega)];simp,wrap_md hs] at this
theorem lop_wrem (ho:o.op=.binOp .rem t x y t') (hx:σ.look x=.p (.v (.int k (a:Int)))) (hy:σ.look y=.p (.v (.int k (b:Int)))) (hb:0 < b) (hd:dOk C o.dst=true):LOp C o σ ⟨.p (.v (.int k ((a % b:Nat):Int))),[]⟩ (fun _=>false):=by
  have:=lop_rem' ho hx hy hd (by omega) (by omega)
  rwa [← Int.natCast_emod] at this
theorem lop_bits {op:BinOp} (hop:op=.and∨op=.or∨op=.xor∨op=.andNot) (ho:o.op=.binOp op t x y t') (hx:σ.look x=.p (.v (.int k m))) (hy:σ.look y=.p (.v (.int k n))) (hd:dOk C o.dst=true):LOp C o σ ⟨.p (.v (.int k (bits op k m n))),[]⟩ (fun _=>false):=
  lop_bin ho hx hy (fun w=>by
    rw [Sem.run_bind,eqg_int,Result.andThen_ok]
    rcases hop with rfl|rfl|rfl|rfl<;>simp [binOp_and,binOp_or,binOp_xor,binOp_andNot,intBits_and,intBits_or,intBits_xor,intBits_andNot]) rfl hd
theorem lop_wand (ho:o.op=.binOp .and t x y t') (hx:σ.look x=.p (.v (.int k (a:Int)))) (hy:σ.look y=.p (.v (.int k (b:Int)))) (hs:k.signed=false) (hd:dOk C o.dst=true):LOp C o σ ⟨.p (.v (.int k ((a % md k&&& b % md k:Nat):Int))),[]⟩ (fun _=>false):=by
  have:=lop_bits (.inl rfl) ho hx hy hd;rwa [(bits_nat hs a b).1] at this
theorem lop_wor (ho:o.op=.binOp .or t x y t') (hx:σ.look x=.p (.v (.int k (a:Int)))) (hy:σ.look y=.p (.v (.int k (b:Int)))) (hs:k.signed=false) (hd:dOk C o.dst=true):LOp C o σ ⟨.p (.v (.int k ((a % md k||| b % md k:Nat):Int))),[]⟩ (fun _=>false):=by
  have:=lop_bits (.inr (.inl rfl)) ho hx hy hd;rwa [(bits_nat hs a b).2.1] at this
theorem lop_wxor (ho:o.op=.binOp .xor t x y t') (hx:σ.look x=.p (.v (.int k (a:Int)))) (hy:σ.look y=.p (.v (.int k (b:Int)))) (hs:k.signed=false) (hd:dOk C o.dst=true):LOp C o σ ⟨.p (.v (.int k (((a % md k) ^^^ (b % md k):Nat):Int))),[]⟩ (fun _=>false):=by
  have:=lop_bits (.inr (.inr (.inl rfl))) ho hx hy hd;rwa [(bits_nat hs a b).2.2] at this
theorem lop_wnot (ho:o.op=.unOp .xor t x) (hx:σ.look x=.p (.v (.int k (a:Int)))) (hs:k.signed=false) (hd:dOk C o.dst=true):LOp C o σ ⟨.p (.v (.int k (((md k - 1) ^^^ (a % md k):Nat):Int))),[]⟩ (fun _=>false):=
  lop_val hd fun τ a' w G hl hm h=>by
    have e1:=val_of h ((hl x (by simp [ho,Op.operands])).trans hx)
    have hk:k.max=((md k - 1:Nat):Int):=by cases k<;>simp [IntKind.signed] at hs<;>rfl
    have e2:(Op.unary .xor (.int k (a:Int))).run C.P w=.ok (.int k (((md k - 1) ^^^ (a % md k):Nat):Int)) w:=by
      simp only [Op.unary,hs,Bool.false_eq_true,if_false,hk,intBits_xor,(bits_nat hs _ _).2.2]
      rw [Nat.mod_eq_of_lt (by cases k<;>decide)];rfl
    exact ⟨_,by simp only [execOp,ho,e1,Sem.run_bind,e2,Result.andThen_ok];rfl,rfl,rfl⟩
theorem lop_wshr {yk:IntKind} (ho:o.op=.binOp .shr t x y t') (hx:σ.look x=.p (.v (.int k (a:Int)))) (hy:σ.look y=.p (.v (.int yk n))) (h0:0≤n) (h1:n≤k.bits) (hd:dOk C o.dst=true):LOp C o σ ⟨.p (.v (.int k ((a / 2 ^ n.toNat:Nat):Int))),[]⟩ (fun _=>false):=by
  refine lop_bin ho hx hy (fun w=>?_) rfl hd
  rw [Sem.run_bind]
  have e:(eqGuard .shr t x y (.int k (a:Int)) (.int yk n)).run C.P w=.ok () w:=by unfold eqGuard;simp [pure]
  rw [e,Result.andThen_ok,binOp_shr,shift_shr _ _ _ _ h0 h1]
  simp
theorem lop_wshl {yk:IntKind} (ho:o.op=.binOp .shl t x y t') (hx:σ.look x=.p (.v (.int k (a:Int)))) (hy:σ.look y=.p (.v (.int yk n))) (h0:0≤n) (h1:n≤k.bits) (hs:k.signed=false) (hd:dOk C o.dst=true):LOp C o σ ⟨.p (.v (.int k (((a * 2 ^ n.toNat) % md k:Nat):Int))),[]⟩ (fun _=>false):=by
  refine lop_bin ho hx hy (fun w=>?_) rfl hd
  rw [Sem.run_bind]
  have e:(eqGuard .shl t x y (.int k (a:Int)) (.int yk n)).run C.P w=.ok () w:=by unfold eqGuard;simp [pure]
  rw [e,Result.andThen_ok,binOp_shl,shift_shl _ _ _ _ h0 h1]
  have:(a:Int) * 2 ^ n.toNat=((a * 2 ^ n.toNat:Nat):Int):=by simp
  rw [this,wrap_md hs];rfl
theorem lop_wconv {s d:TypeId} {sz by_:Nat} {ks:TK} {sz' by':Nat} (ho:o.op=.convert s d x) (hT:TI C.P d (.int k') sz by_) (hS:TI C.P s ks sz' by') (hx:σ.look x=.p (.v (.int k (a:Int)))) (hs:k'.signed=false) (hd:dOk C o.dst=true) :
    LOp C o σ ⟨.p (.v (.int k' ((a % md k':Nat):Int))),[]⟩ (fun _=>false):=by
  have:=lop_conv ho hx hd;rwa [wrap_md hs] at this
theorem lit_nat (n:Nat):(@OfNat.ofNat Int n (@instOfNat n))=((n:Nat):Int):=rfl
theorem ofn_nat (n:Nat):Int.ofNat n=((n:Nat):Int):=rfl
theorem lop_wadd' (ho:o.op=.binOp .add t x y t') (hx:σ.look x=.p (.v (.int k m))) (hy:σ.look y=.p (.v (.int k n))) (hma:m=(a:Int)) (hnb:n=(b:Int)) (hs:k.signed=false) (hd:dOk C o.dst=true):LOp C o σ ⟨.p (.v (.int k (((a+b) % md k:Nat):Int))),[]⟩ (fun _=>false):=by
  subst hma hnb;exact lop_wadd ho hx hy hs hd
theorem lop_wmul' (ho:o.op=.binOp .mul t x y t') (hx:σ.look x=.p (.v (.int k m))) (hy:σ.look y=.p (.v (.int k n))) (hma:m=(a:Int)) (hnb:n=(b:Int)) (hs:k.signed=false) (hd:dOk C o.dst=true):LOp C o σ ⟨.p (.v (.int k (((a * b) % md k:Nat):Int))),[]⟩ (fun _=>false):=by
  subst hma hnb;exact lop_wmul ho hx hy hs hd
theorem lop_wsub' (ho:o.op=.binOp .sub t x y t') (hx:σ.look x=.p (.v (.int k m))) (hy:σ.look y=.p (.v (.int k n))) (hma:m=(a:Int)) (hnb:n=(b:Int)) (hs:k.signed=false) (hd:dOk C o.dst=true):LOp C o σ ⟨.p (.v (.int k (((a+(md k - b % md k)) % md k:Nat):Int))),[]⟩ (fun _=>false):=by
  subst hma hnb;exact lop_wsub ho hx hy hs hd
theorem lop_wquo' (ho:o.op=.binOp .quo t x y t') (hx:σ.look x=.p (.v (.int k m))) (hy:σ.look y=.p (.v (.int k n))) (hma:m=(a:Int)) (hnb:n=(b:Int)) (hb:0 < b) (hs:k.signed=false) (hd:dOk C o.dst=true):LOp C o σ ⟨.p (.v (.int k (((a / b) % md k:Nat):Int))),[]⟩ (fun _=>false):=by
  subst hma hnb;exact lop_wquo ho hx hy hb hs hd
theorem lop_wrem' (ho:o.op=.binOp .rem t x y t') (hx:σ.look x=.p (.v (.int k m))) (hy:σ.look y=.p (.v (.int k n))) (hma:m=(a:Int)) (hnb:n=(b:Int)) (hb:0 < b) (hd:dOk C o.dst=true):LOp C o σ ⟨.p (.v (.int k ((a % b:Nat):Int))),[]⟩ (fun _=>false):=by
  subst hma hnb;exact lop_wrem ho hx hy hb hd
theorem lop_wand' (ho:o.op=.binOp .and t x y t') (hx:σ.look x=.p (.v (.int k m))) (hy:σ.look y=.p (.v (.int k n))) (hma:m=(a:Int)) (hnb:n=(b:Int)) (hs:k.signed=false) (hd:dOk C o.dst=true):LOp C o σ ⟨.p (.v (.int k ((a % md k&&& b % md k:Nat):Int))),[]⟩ (fun _=>false):=by
  subst hma hnb;exact lop_wand ho hx hy hs hd
theorem lop_wor' (ho:o.op=.binOp .or t x y t') (hx:σ.look x=.p (.v (.int k m))) (hy:σ.look y=.p (.v (.int k n))) (hma:m=(a:Int)) (hnb:n=(b:Int)) (hs:k.signed=false) (hd:dOk C o.dst=true):LOp C o σ ⟨.p (.v (.int k ((a % md k||| b % md k:Nat):Int))),[]⟩ (fun _=>false):=by
  subst hma hnb;exact lop_wor ho hx hy hs hd
theorem lop_wxor' (ho:o.op=.binOp .xor t x y t') (hx:σ.look x=.p (.v (.int k m))) (hy:σ.look y=.p (.v (.int k n))) (hma:m=(a:Int)) (hnb:n=(b:Int)) (hs:k.signed=false) (hd:dOk C o.dst=true):LOp C o σ ⟨.p (.v (.int k (((a % md k) ^^^ (b % md k):Nat):Int))),[]⟩ (fun _=>false):=by
  subst hma hnb;exact lop_wxor ho hx hy hs hd
theorem lop_wnot' (ho:o.op=.unOp .xor t x) (hx:σ.look x=.p (.v (.int k m))) (hma:m=(a:Int)) (hs:k.signed=false) (hd:dOk C o.dst=true):LOp C o σ ⟨.p (.v (.int k (((md k - 1) ^^^ (a % md k):Nat):Int))),[]⟩ (fun _=>false):=by
  subst hma;exact lop_wnot ho hx hs hd
theorem lop_wshr' {yk:IntKind} (ho:o.op=.binOp .shr t x y t') (hx:σ.look x=.p (.v (.int k m))) (hma:m=(a:Int)) (hy:σ.look y=.p (.v (.int yk n))) (h0:0≤n) (h1:n≤k.bits) (hd:dOk C o.dst=true):LOp C o σ ⟨.p (.v (.int k ((a / 2 ^ n.toNat:Nat):Int))),[]⟩ (fun _=>false):=by
  subst hma;exact lop_wshr ho hx hy h0 h1 hd
theorem lop_wshl' {yk:IntKind} (ho:o.op=.binOp .shl t x y t') (hx:σ.look x=.p (.v (.int k m))) (hma:m=(a:Int)) (hy:σ.look y=.p (.v (.int yk n))) (h0:0≤n) (h1:n≤k.bits) (hs:k.signed=false) (hd:dOk C o.dst=true):LOp C o σ ⟨.p (.v (.int k (((a * 2 ^ n.toNat) % md k:Nat):Int))),[]⟩ (fun _=>false):=by
  subst hma;exact lop_wshl ho hx hy h0 h1 hs hd
theorem lop_wconv' {s d:TypeId} {sz by_:Nat} {ks:TK} {sz' by':Nat} (ho:o.op=.convert s d x) (hT:TI C.P d (.int k') sz by_) (hS:TI C.P s ks sz' by') (hx:σ.look x=.p (.v (.int k m))) (hma:m=(a:Int)) (hs:k'.signed=false) (hd:dOk C o.dst=true) :
    LOp C o σ ⟨.p (.v (.int k' ((a % md k':Nat):Int))),[]⟩ (fun _=>false):=by
  subst hma;exact lop_wconv ho hT hS hx hs hd
end words
/-! ### Arrays whose cells are mapped -/
section arrays
variable {C:Ctx} {o:Oper} {σ:St} {α:Type}
theorem lop_ix_arr {T e:TypeId} {x ix:Operand} {n:Nat} {sz by_:Nat} {ke:TK} {sze be:Nat} {ob g off:Nat} {k:IntKind} {i:Int}
    (ho:o.op=.indexAddr T x ix) (hT:TI C.P T (.array n e) sz by_) (he:TI C.P e ke sze be) (hx:σ.look x=.o (.ptr ob g off)) (hi:σ.look ix=.p (.v (.int k i))) (h0:0≤i) (hb:i < n) (hd:dOk C o.dst=true):LOp C o σ ⟨.o (.ptr ob g (off+i.toNat * sze)),[]⟩ (fun _=>false):=lop_indexAddr_arr ho hx hi ⟨h0,hb⟩ hd
theorem lop_ld_arr {f:α→AC} {l:List α} {T:TypeId} {x:Operand} {k:TK} {sz by_:Nat} {ob g n i:Nat} {ty:TypeId} {c:AC} (ho:o.op=.load T x) (hT:TI C.P T k sz by_) (hx:σ.look x=.o (.ptr ob g (0+i * 1))) (hm:σ.mem ob=(n,some (.box ty (l.map f)))) (hI:Inhabited α) (hn:n=g+1)
    (hk:k.agg=false) (hs:sz=1) (hi:i < l.length) (hc:f (l.getD i default)=c) (hd:dOk C o.dst=true):LOp C o σ ⟨.o c,[]⟩ (fun y=>y == ob):=by
  refine lop_load_one (o:=o) ho hx hm hn hk hs ?_ hd
  simp [List.getD_eq_getElem?_getD,hi] at hc ⊢
  exact hc
theorem lop_st_arr {f:α→AC} {l:List α} {v:α} {T:TypeId} {x y:Operand} {k:TK} {sz by_:Nat} {ob g n i:Nat} {ty:TypeId} {c:AC} (ho:o.op=.store T x y) (hT:TI C.P T k sz by_) (hdst:o.dst=none) (hx:σ.look x=.o (.ptr ob g (0+i * 1))) (hy:σ.look y=.o c) (hm:σ.mem ob=(n,some (.box ty (l.map f)))) (hn:n=g+1) (hs:sz=1)
    (hc:c=f v) (hi:i < l.length):LOp C o σ ⟨.un,[(ob,(n,some (.box ty ((l.set i v).map f))))]⟩ (fun z=>z == ob):=by
  have:=lop_store_one (C:=C) (o:=o) (hT:=hT) ho hdst hx hy hm hn (by simpa using hi) hs
  rw [hc,← List.map_set] at this
  simpa using this
theorem lop_sl_lhm {T e:TypeId} {sz by_ es be:Nat} {ke:TK} {f:α→List PVal} {l:List α} {ex:Bool} {x xl xh xm:Operand} {kl kh km:IntKind} {lo hi mx:Int} (ho:o.op=.slice T x (some xl) (some xh) (some xm)) (hT:TI C.P T (.slice e) sz by_) (he:TI C.P e ke es be) (hx:σ.look x=.p (.sl es (l.map f) ex)) (hlo:σ.look xl=.p (.v (.int kl lo))) (hhi:σ.look xh=.p (.v (.int kh hi))) (hmx:σ.look xm=.p (.v (.int km mx))) (h0:0≤lo) (h01:lo≤hi) (hm:mx=hi) (h1:hi≤l.length) (hd:dOk C o.dst=true) :
    LOp C o σ ⟨.p (.sl es (((l.drop lo.toNat).take (hi.toNat - lo.toNat)).map f) true),[]⟩ (fun _=>false):=by
  have:=lop_slice_lhm (o:=o) ho hx hlo hhi hmx h0 h01 hm (by simpa using h1) hd
  rwa [← List.map_drop,← List.map_take] at this
end arrays
/-! ### Functions' values -/
def fbx (ps:List PVal):AObj where
  holds X b fp:=fp=[]∧X.S b∧∃ arr ty,X.w.heap[b]?=some (.cells (List.toArray arr) ty (0,0))∧All2 (fun p c=>p.holds X c) ps arr
  mono:=by
    rintro x y b fp hle hfp ⟨h1,h2,arr,ty,h3,h4⟩
    exact ⟨h1,(hle b h2).1,arr,ty,(hle b h2).2.trans h3,h4.mono fun p c hp=>p.mono hle hp⟩
structure Cap where
  o:Nat
  n:Nat
  ty:TypeId
  ps:List PVal
def Cap.upd (q:Cap):Nat × (Nat × Option MO):=(q.o,(q.n+1,some (.abs (fbx q.ps))))
theorem freeze_list {C:Ctx} {a:Act} {w:World}:∀ (l:List Cap) {τ:St} {G:Gh},(l.map (·.o)).Nodup→(∀ q∈l,τ.mem q.o=(q.n+1,some (.box q.ty (q.ps.map .p))))→RelG C τ a w G→
    ∃ G',RelG C (τ.puts (l.map Cap.upd)) a w G'∧G'.μ=G.μ∧(∀ b,G.S b→G'.S b)
  | [],τ,G,_,_,h=>⟨G,h,rfl,fun _ h=>h⟩
  | q::l,τ,G,hnd,hm,h=>by
    rw [List.map_cons,List.nodup_cons] at hnd
    obtain ⟨G1,h1,e1,s1⟩:=freeze_list l hnd.2 (fun r hr=>hm r (by simp [hr])) h
    have hq:(τ.puts (l.map Cap.upd)).mem q.o=(q.n+1,some (.box q.ty (q.ps.map .p))):=by
      rw [St.puts_mem _ _ _ fun y m hy he=>?_]
      · exact hm q (by simp)
      · obtain ⟨r,hr,hre⟩:=List.mem_map.1 hy
        simp [Cap.upd] at hre
        exact hnd.1 (List.mem_map.2 ⟨r,hr,hre.1.trans he.symm⟩)
    have h2:=h1.freeze (o:=q.o) (mo':=some (.abs (fbx q.ps))) hq (fun x hx=>by
      obtain rfl:=Option.some.inj hx
      obtain ⟨g,m,k1,k2,b,arr,k3,k4,k5,k6⟩:=h1.mem q.o _ _ hq
      refine ⟨g,m,k1,k2,b,k3,rfl,.inr (by rw [k4];simp),arr,q.ty,k5,?_⟩
      refine ⟨by simpa using k6.1,fun i p c hp hc=>?_⟩
      exact p.mono (x:=⟨w,G1.S⟩) (fun b hb=>⟨.inl hb,rfl⟩) (k6.2 i (.p p) c (by simp [hp]) hc))
    exact ⟨_,h2,e1,fun b hb=>.inl (s1 b hb)⟩
section funcs
variable {C:Ctx} {o:Oper} {σ:St}
theorem lop_mf {f:FuncId} {cs:Array Operand} {l:List Cap} (ho:o.op=.makeFunc (.func f) #[] cs) (ha:All2 (fun x (q:Cap)=>σ.look x=.o (.ptr q.o q.n 0)) cs.toList l) (hm:∀ q∈l,σ.mem q.o=(q.n+1,some (.box q.ty (q.ps.map .p)))) (hnd:(l.map (·.o)).Nodup) (hd:dOk C o.dst=true) :
    LOp C o σ ⟨.p (.fnv f (l.map fun q=>.bx q.ps 0)),l.map Cap.upd⟩ (fun x=>l.any fun q=>q.o == x):=by
  refine ⟨fun x m h=>?_,fun τ hlk hmm a w ⟨G,h⟩ K Q hK=>?_⟩
  · obtain ⟨q,hq,he⟩:=List.mem_map.1 h
    simp [Cap.upd] at he
    exact List.any_eq_true.2 ⟨q,hq,by simp [he.1]⟩
  · have hm':∀ q∈l,τ.mem q.o=(q.n+1,some (.box q.ty (q.ps.map .p))):=fun q hq=>(hmm q.o (List.any_eq_true.2 ⟨q,hq,by simp⟩)).trans (hm q hq)
    obtain ⟨G',h',e1,s1⟩:=freeze_list l hnd hm' h
    refine wpIn_exec (by rw [ho];intro c h;cases h) ?_
    have hrun:(execOp a.eval o).run C.P w=.ok (.value (.func (.func f) #[] (cs.map a.eval))) w:=by
      simp [execOp,ho,Instr.makeFunc]
    rw [hrun,Oper.uponIn_value]
    refine hK _ _ ⟨_,h'.setv hd ⟨cs.toList.map a.eval,by rw [← Array.toList_map],?_⟩⟩
    refine ⟨by simp [ha.1],fun i p v hp hv=>?_⟩
    rw [List.getElem?_map] at hp hv
    cases hq:l[i]? with
    | none=>rw [hq] at hp;cases hp
    | some q=>
      rw [hq] at hp;simp at hp;subst hp
      cases hx:cs.toList[i]? with
      | none=>rw [hx] at hv;cases hv
      | some x=>
        rw [hx] at hv;simp at hv;subst hv
        have hqm:=List.mem_of_getElem? hq
        have hlx:τ.look x=.o (.ptr q.o q.n 0):=(hlk x (by rw [ho];simp [Op.operands];simpa using List.mem_of_getElem? hx)).trans (ha.2 i x q hx hq)
        have hh:=h.look x
        rw [hlx] at hh
        obtain ⟨b,c,k1,k2⟩:=hh
        -- the object, as it lies now
        have hmem:(τ.puts (l.map Cap.upd)).mem q.o=(q.n+1,some (.abs (fbx q.ps))):=by
          clear h' hK hm' ha hx hlk hmm hm hrun
          have:∀ (l:List Cap),(l.map (·.o)).Nodup→q∈l→(τ.puts (l.map Cap.upd)).mem q.o=(q.n+1,some (.abs (fbx q.ps))):=by
            intro l
            induction l with
            | nil=>intro _ hq;cases hq
            | cons r l ih=>
              intro hnd hq
              rw [List.map_cons,List.nodup_cons] at hnd
              rcases List.mem_cons.1 hq with rfl|hq
              · simp [Cap.upd,St.puts,St.put]
              · have hne:q.o≠r.o:=fun e=>hnd.1 (List.mem_map.2 ⟨q,hq,e⟩)
                simp only [List.map_cons,Cap.upd,St.puts,St.put,hne,if_false]
                exact ih hnd.2 hq
          exact this l hnd hqm
        obtain ⟨g',m',j1,j2,b',j3,_,j4,arr,ty,j5,j6⟩:=h'.mem q.o _ _ hmem
        obtain rfl:q.n=g':=by omega
        rw [e1,k1] at j2
        obtain rfl:=Option.some.inj j2
        simp only [Option.some.injEq] at j3
        subst j3
        exact ⟨b,arr,ty,k2,j4,j5,j6⟩
theorem pm1 {a0:PVal}:[AC.p a0]=[a0].map .p:=rfl
theorem lop_mf1 {f:FuncId} {x0:Operand} {o0 g0 n0 ty0:Nat} {cs0:List AC} {ps0:List PVal} (ho:o.op=.makeFunc (.func f) #[] #[x0]) (h0:σ.look x0=.o (.ptr o0 g0 0)) (hm0:σ.mem o0=(n0,some (.box ty0 cs0))) (hn0:n0=g0+1) (hc0:cs0=ps0.map .p) (hd:dOk C o.dst=true) :
    LOp C o σ ⟨.p (.fnv f [.bx ps0 0]),[(o0,(g0+1,some (.abs (fbx ps0))))]⟩ (fun x=>[o0].any (· == x)):=by
  subst hn0 hc0
  have:=lop_mf (C:=C) (o:=o) (σ:=σ) (l:=[⟨o0,g0,ty0,ps0⟩]) ho (.cons h0 .nil) (by simpa using hm0) (by simp) hd
  simpa [Cap.upd] using this
theorem lop_mf2 {f:FuncId} {x0 x1:Operand} {o0 g0 n0 ty0 o1 g1 n1 ty1:Nat} {cs0 cs1:List AC} {ps0 ps1:List PVal} (ho:o.op=.makeFunc (.func f) #[] #[x0,x1]) (h0:σ.look x0=.o (.ptr o0 g0 0)) (hm0:σ.mem o0=(n0,some (.box ty0 cs0))) (hn0:n0=g0+1) (hc0:cs0=ps0.map .p)
    (h1:σ.look x1=.o (.ptr o1 g1 0)) (hm1:σ.mem o1=(n1,some (.box ty1 cs1))) (hn1:n1=g1+1) (hc1:cs1=ps1.map .p) (hne:o0≠o1) (hd:dOk C o.dst=true) :
    LOp C o σ ⟨.p (.fnv f [.bx ps0 0,.bx ps1 0]),[(o0,(g0+1,some (.abs (fbx ps0)))),(o1,(g1+1,some (.abs (fbx ps1))))]⟩ (fun x=>[o0,o1].any (· == x)):=by
  subst hn0 hc0 hn1 hc1
  have:=lop_mf (C:=C) (o:=o) (σ:=σ) (l:=[⟨o0,g0,ty0,ps0⟩,⟨o1,g1,ty1,ps1⟩]) ho (.cons h0 (.cons h1 .nil)) (by intro q hq;simp at hq;rcases hq with rfl|rfl;exact hm0;exact hm1) (by simp [hne]) hd
  simpa [Cap.upd] using this
theorem lop_ld_bx {T:TypeId} {x:Operand} {k:TK} {sz by_:Nat} {ps:List PVal} {off:Nat} {p:PVal} (ho:o.op=.load T x) (hT:TI C.P T k sz by_) (hx:σ.look x=.p (.bx ps off)) (hk:k.agg=false) (hs:sz=1) (hp:ps[off]?=some p) (hd:dOk C o.dst=true):LOp C o σ ⟨.p p,[]⟩ (fun _=>false):=
  lop_val hd fun τ a w G hl hm h=>by
    obtain ⟨b,cs,ty,h1,h2,h3,h4⟩:=look_of h ((hl x (by simp [ho,Op.operands])).trans hx)
    obtain ⟨v,hv,hh⟩:=h4.get hp
    have hlt:off < cs.length:=(List.getElem?_eq_some_iff.1 hv).1
    have hr:=run_loadVar (P:=C.P) hT (w:=w) (b:=b) (off:=off) (arr:=cs) (ty:=ty) (fr:=(0,0)) h3 (by omega) (by simp [hs])
    simp only [hk,Bool.false_eq_true,if_false] at hr
    have:cs.getD off undef=v:=by simp [List.getD_eq_getElem?_getD,hv]
    rw [this] at hr
    exact ⟨v,by simp [execOp,ho,h1,Instr.loadAt,Instr.sureAddr,hr],hh⟩
theorem lop_ld_fbx {T:TypeId} {x:Operand} {k:TK} {sz by_:Nat} {ob g off n:Nat} {ps:List PVal} {p:PVal} (ho:o.op=.load T x) (hT:TI C.P T k sz by_) (hx:σ.look x=.o (.ptr ob g off)) (hm:σ.mem ob=(n,some (.abs (fbx ps)))) (hn:n=g+1) (hk:k.agg=false) (hs:sz=1) (hp:ps[off]?=some p) (hd:dOk C o.dst=true):LOp C o σ ⟨.p p,[]⟩ (fun y=>y == ob):=
  lop_val hd fun τ a w G hl hm' h=>by
    subst hn
    obtain ⟨b,c',h1,h2⟩:=look_of h ((hl x (by simp [ho,Op.operands])).trans hx)
    obtain ⟨g',m',hg,hmm,b',h4,_,h5,cs,ty,h6,h7⟩:=h.mem ob _ _ (by rw [hm' ob (by simp)];exact hm)
    obtain rfl:g=g':=by omega
    rw [h1] at hmm;obtain rfl:=Option.some.inj hmm
    simp only [Option.some.injEq] at h4;subst h4
    obtain ⟨v,hv,hh⟩:=h7.get hp
    have hlt:off < cs.length:=(List.getElem?_eq_some_iff.1 hv).1
    have hr:=run_loadVar (P:=C.P) hT (w:=w) (b:=b) (off:=off) (arr:=cs) (ty:=ty) (fr:=(0,0)) h6 (by omega) (by simp [hs])
    simp only [hk,Bool.false_eq_true,if_false] at hr
    have:cs.getD off undef=v:=by simp [List.getD_eq_getElem?_getD,hv]
    rw [this] at hr
    exact ⟨v,by simp [execOp,ho,h2,Instr.loadAt,Instr.sureAddr,hr],hh⟩
end funcs
end Go.Aw
/- THE ABSTRACT WALK, part 20: stores in a region that draws; steps over words. Nothing here speaks of a program. -/
namespace Go.Aw
open Go Go.RowKit
set_option linter.unusedVariables false
set_option linter.unusedSimpArgs false
theorem ex2 {α β:Type} {p:α × β→Prop} (a:α) {b:β} (h:p (a,b)):∃ x,p x:=⟨(a,b),h⟩
theorem ex3 {α β γ:Type} {p:α × β × γ→Prop} (a:α) (b:β) {c:γ} (h:p (a,b,c)):∃ x,p x:=⟨(a,b,c),h⟩
theorem lopW {C:Ctx} {o:Oper} {σ:St} {e:Eff} {ro:Nat→Bool} (h:LOp C o σ e ro:=by
    first
      | exact lop_wadd' rfl rfl rfl (by with_reducible (first|rfl|exact lit_nat _|exact ofn_nat _)) (by with_reducible (first|rfl|exact lit_nat _|exact ofn_nat _)) rfl rfl
            | exact lop_wmul' rfl rfl rfl (by with_reducible (first|rfl|exact lit_nat _|exact ofn_nat _)) (by with_reducible (first|rfl|exact lit_nat _|exact ofn_nat _)) rfl rfl
            | exact lop_wsub' rfl rfl rfl (by with_reducible (first|rfl|exact lit_nat _|exact ofn_nat _)) (by with_reducible (first|rfl|exact lit_nat _|exact ofn_nat _)) rfl rfl
            | exact lop_wquo' rfl rfl rfl (by with_reducible (first|rfl|exact lit_nat _|exact ofn_nat _)) (by with_reducible (first|rfl|exact lit_nat _|exact ofn_nat _)) (by decide) rfl rfl
            | exact lop_wrem' rfl rfl rfl (by with_reducible (first|rfl|exact lit_nat _|exact ofn_nat _)) (by with_reducible (first|rfl|exact lit_nat _|exact ofn_nat _)) (by decide) rfl
            | exact lop_wand' rfl rfl rfl (by with_reducible (first|rfl|exact lit_nat _|exact ofn_nat _)) (by with_reducible (first|rfl|exact lit_nat _|exact ofn_nat _)) rfl rfl
            | exact lop_wor' rfl rfl rfl (by with_reducible (first|rfl|exact lit_nat _|exact ofn_nat _)) (by with_reducible (first|rfl|exact lit_nat _|exact ofn_nat _)) rfl rfl
            | exact lop_wxor' rfl rfl rfl (by with_reducible (first|rfl|exact lit_nat _|exact ofn_nat _)) (by with_reducible (first|rfl|exact lit_nat _|exact ofn_nat _)) rfl rfl
            | exact lop_wnot' rfl rfl (by with_reducible (first|rfl|exact lit_nat _|exact ofn_nat _)) rfl rfl
            | exact lop_wshr' rfl rfl (by with_reducible (first|rfl|exact lit_nat _|exact ofn_nat _)) rfl (by first|decide|omega) (by first|decide|(simp only [IntKind.bits];omega)) rfl
            | exact lop_wshl' rfl rfl (by with_reducible (first|rfl|exact lit_nat _|exact ofn_nat _)) rfl (by first|decide|omega) (by first|decide|(simp only [IntKind.bits];omega)) rfl rfl
            | (apply lop_wconv';(focus rfl);(focus exact inferInstance);(focus exact inferInstance);(focus rfl);(focus exact (by with_reducible (first|rfl|exact lit_nat _|exact ofn_nat _)));(focus rfl);(focus rfl))
      | exact lopA):LOp C o σ e ro:=h
section steps
variable {C:Ctx} {ops:Array Oper} {o:Oper} {rest:List Oper} {K:St→Prop} {σ:St} {e:Eff} {ro:Nat→Bool} {W:List (Nat × Nat)} {i:Nat}
theorem rk_sto (hg:Guard ops σ o true) (hd':o.dst=none) (h:LOp C o σ e ro) (hro:∀ x,ro x=true→okObj ops W i x=true) (hob:∀ p∈e.obj,(i,p.1)∈W) (hk:RunK C ops W (i+1) rest K (e.app none σ)):RunK C ops W i (o::rest) K σ:=by
  rw [← hd'] at hk;exact ⟨_,.inl ⟨hg,by rw [hd'];rfl,ro,h,hro,fun x m hx=>hob (x,m) hx⟩,hk⟩
theorem rkS (hg:Guard ops σ o true:=by first|exact gd_n rfl rfl|exact gd_t rfl rfl rfl rfl|exact gd_t rfl rfl rfl (by assumption)) (hd':o.dst=none:=by rfl) (h:LOp C o σ e ro:=by exact stoA) (hro:∀ x,ro x=true→okObj ops W i x=true:=by first|exact fun _=>ro_none|exact ro_one rfl|exact ro_one (by kernel_rfl)|exact ro_kIn (by decide)) (hob:∀ p∈e.obj,(i,p.1)∈W:=by first|exact ob_none|exact ob_one (by decide)|decide) (hk:RunK C ops W (i+1) rest K (e.app none σ)):RunK C ops W i (o::rest) K σ:=rk_sto hg hd' h hro hob hk
theorem rnAW {d:Nat} (hg:Guard ops σ o true:=by first|exact gd_n rfl rfl|exact gd_t rfl rfl rfl rfl|exact gd_t rfl rfl rfl (by assumption)) (hd:o.dst=some d:=by rfl) (h:LOp C o σ e ro:=by exact lopW) (hk:RunN C ops rest K (e.app (some d) σ)):RunN C ops (o::rest) K σ:=rn_any hg hd h hk
theorem rkAW {d:Nat} (hg:Guard ops σ o true:=by first|exact gd_n rfl rfl|exact gd_t rfl rfl rfl rfl|exact gd_t rfl rfl rfl (by assumption)) (hd':o.dst=some d:=by rfl) (hd:dOk C o.dst=true:=by rfl) (h:LOp C o σ e ro:=by exact lopW) (hro:∀ x,ro x=true→okObj ops W i x=true:=by first|exact fun _=>ro_none|exact ro_one rfl|exact ro_one (by kernel_rfl)|exact ro_kIn (by decide)) (hob:∀ p∈e.obj,(i,p.1)∈W:=by first|exact ob_none|exact ob_one (by decide)|decide) (hk:RunK C ops W (i+1) rest K (e.app (some d) σ)):RunK C ops W i (o::rest) K σ:=rk_wr hg hd' hd h hro hob hk
end steps
/-! ### Arrays written out -/
theorem sn64 {x:Option (List AC)} {c0 c1 c2 c3 c4 c5 c6 c7 c8 c9 c10 c11 c12 c13 c14 c15 c16 c17 c18 c19 c20 c21 c22 c23 c24 c25 c26 c27 c28 c29 c30 c31 c32 c33 c34 c35 c36 c37 c38 c39 c40 c41 c42 c43 c44 c45 c46 c47 c48 c49 c50 c51 c52 c53 c54 c55 c56 c57 c58 c59 c60 c61 c62 c63:AC} (h:x=some [c0,c1,c2,c3,c4,c5,c6,c7,c8,c9,c10,c11,c12,c13,c14,c15,c16,c17,c18,c19,c20,c21,c22,c23,c24,c25,c26,c27,c28,c29,c30,c31,c32,c33,c34,c35,c36,c37,c38,c39,c40,c41,c42,c43,c44,c45,c46,c47,c48,c49,c50,c51,c52,c53,c54,c55,c56,c57,c58,c59,c60,c61,c62,c63]):x=some [c0,c1,c2,c3,c4,c5,c6,c7,c8,c9,c10,c11,c12,c13,c14,c15,c16,c17,c18,c19,c20,c21,c22,c23,c24,c25,c26,c27,c28,c29,c30,c31,c32,c33,c34,c35,c36,c37,c38,c39,c40,c41,c42,c43,c44,c45,c46,c47,c48,c49,c50,c51,c52,c53,c54,c55,c56,c57,c58,c59,c60,c61,c62,c63]:=h
theorem bp_cons {σ:St} {k:Nat} {x:Operand} {c:AC} {l:List (Nat × Operand)} {ps:List (Nat × List AC)} (hx:σ.look x=.o c) (h:All2 (fun (x:Nat × Operand) (p:Nat × List AC)=>x.1=p.1∧∃ s,σ.look x.2=.s s∧s.cells=p.2) l ps) :
    All2 (fun (x:Nat × Operand) (p:Nat × List AC)=>x.1=p.1∧∃ s,σ.look x.2=.s s∧s.cells=p.2) ((k,x)::l) ((k,[c])::ps):=.cons ⟨rfl,_,hx,rfl⟩ h
theorem lop_build_ar {C:Ctx} {o:Oper} {σ:St} {T e:TypeId} {parts:Array (Nat × Operand)} {n sz by_:Nat} {ke:TK} {sze be:Nat} {z:List Value} {ps:List (Nat × List AC)} {cs:List AC} (ho:o.op=.build T parts) (hT:TI C.P T (.array n e) sz by_) (he:TI C.P e ke sze be) (hz:TZ C.P T z)
    (hp:All2 (fun (x:Nat × Operand) (p:Nat × List AC)=>x.1=p.1∧∃ s,σ.look x.2=.s s∧s.cells=p.2) parts.toList ps) (h1:z.all (·.oneCell')=true)
    (hb:bfill (fun i=>some (i * sze,sze)) (z.map fun v=>.p (.v v)) ps=some cs) (hd:dOk C o.dst=true):LOp C o σ ⟨.a cs,[]⟩ (fun _=>false):=lop_build_arr ho hp h1 hb hd
theorem lop_ixv {C:Ctx} {o:Oper} {σ:St} {α:Type} {f:α→AC} {l:List α} {T e:TypeId} {x ix:Operand} {n:Nat} {sz by_:Nat} {ke:TK} {sze be:Nat} {c:AC} {k:IntKind} {i:Int}
    (ho:o.op=.index T x ix) (hT:TI C.P T (.array n e) sz by_) (he:TI C.P e ke sze be) (hx:σ.look x=.a (l.map f)) (hi:σ.look ix=.p (.v (.int k i))) (hI:Inhabited α) (h0:0≤i) (hb:i < n) (hl:i < l.length) (hk:ke.agg=false) (hs:sze=1) (hc:f (l.getD i.toNat default)=c) (hd:dOk C o.dst=true) :
    LOp C o σ ⟨.o c,[]⟩ (fun _=>false):=by
  refine lop_index_arr1 (o:=o) ho hx hi ⟨h0,hb⟩ hk hs ?_ hd
  have:i.toNat < l.length:=by omega
  simp [List.getD_eq_getElem?_getD,this] at hc ⊢
  exact hc
end Go.Aw
/- THE ABSTRACT WALK, part 21: what slices.Grow needs: append(nil, make(..)...), cap, an own slice cut short. Nothing here speaks of a program. -/
namespace Go.Aw
open Go Go.RowKit
set_option linter.unusedVariables false
set_option linter.unusedSimpArgs false
section ops
variable {C:Ctx} {o:Oper} {σ:St}
theorem lop_cap_nil {T e:TypeId} {x:Operand} {sz by_:Nat} [hT:TI C.P T (.slice e) sz by_] {n c:Nat} {b:Option Addr} (ho:o.op=.call ⟨.builtin .cap,#[x],#[T]⟩) (hx:σ.look x=.p (.v (.slice b n c))) (hd:dOk C o.dst=true) :
    LOp C o σ ⟨.p (.v (.int .i64 c)),[]⟩ (fun _=>false):=
  lop_val hd fun τ a w G hl' hm' h=>by
    have h1:=val_of h ((hl' x (by simp [ho,Op.operands,Call.operands])).trans hx)
    obtain ⟨d,hdd,hkk⟩:=hT.undd
    have:d=.slice e:=by cases d<;>simp [TK.of] at hkk;rw [hkk]
    subst this
    exact ⟨.int .i64 c,by simp [execOp,ho,resolve,invoke,builtin,Builtin.cap_,h1,run_underlying hdd,goInt],rfl,rfl⟩
theorem lop_sl_n0 {T e:TypeId} {x xh:Operand} {sz by_:Nat} [hT:TI C.P T (.slice e) sz by_] {ke:TK} {sze be:Nat} [he:TI C.P e ke sze be] {kh:IntKind} (ho:o.op=.slice T x none (some xh) none) (hx:σ.look x=.p (.v (.slice none 0 0))) (hh:σ.look xh=.p (.v (.int kh 0))) (hd:dOk C o.dst=true) :
    LOp C o σ ⟨.p (.v (.slice none 0 0)),[]⟩ (fun _=>false):=
  lop_val hd fun τ a w G hl hm' h=>by
    have h1:=val_of h ((hl x (by simp [ho,Op.operands])).trans hx)
    have h2:=val_of h ((hl xh (by simp [ho,Op.operands])).trans hh)
    obtain ⟨d,hdd,hkk⟩:=hT.undd
    have:d=.slice e:=by cases d<;>simp [TK.of] at hkk;rw [hkk]
    subst this
    refine ⟨.slice none 0 0,?_,rfl,rfl⟩
    have e1:(Instr.sliceBounds true 0 0 none (some (.int kh 0)) none).run C.P w=.ok (0,0,0) w:=by simp [Instr.sliceBounds,run_sb (y:=0) (i:=0) (by omega) (by omega)]
    simp only [execOp,ho,Instr.sliceAt,Sem.run_bind,run_underlying hdd,Result.andThen_ok,Instr.slice,h1,h2,Option.map_none,Option.map_some,e1,he.run_sizeOf,Sem.run_pure]
    rfl
theorem lop_sl_oh {T e:TypeId} {x xh:Operand} {sz by_:Nat} [hT:TI C.P T (.slice e) sz by_] {ke:TK} {sze be:Nat} [he:TI C.P e ke sze be] {kh:IntKind} {hi:Int} {ob g es len:Nat} (ho:o.op=.slice T x none (some xh) none) (hx:σ.look x=.o (.osl ob g es 0 len)) (hh:σ.look xh=.p (.v (.int kh hi)))
    (h0:0≤hi) (h1:hi≤len) (hd:dOk C o.dst=true) :
    LOp C o σ ⟨.o (.osl ob g es 0 hi.toNat),[]⟩ (fun _=>false):=
  lop_val hd fun τ a w G hl hm' h=>by
    obtain ⟨m,c,p1,p2,p3⟩:=look_of h ((hl x (by simp [ho,Op.operands])).trans hx)
    have h2:=val_of h ((hl xh (by simp [ho,Op.operands])).trans hh)
    obtain ⟨d,hdd,hkk⟩:=hT.undd
    have:d=.slice e:=by cases d<;>simp [TK.of] at hkk;rw [hkk]
    subst this
    refine ⟨.slice (m.map fun b=>⟨b,0,none⟩) hi.toNat c,?_,m,c,p1,by omega,by simp⟩
    have e1:(Instr.sliceBounds true len c none (some (.int kh hi)) none).run C.P w=.ok (0,hi.toNat,c) w:=by simp [Instr.sliceBounds,run_sb (y:=c) h0 (by omega)]
    simp only [Nat.sub_zero,Nat.zero_mul] at p3
    simp only [execOp,ho,Instr.sliceAt,Sem.run_bind,run_underlying hdd,Result.andThen_ok,Instr.slice,p3,h2,Option.map_none,Option.map_some,e1,he.run_sizeOf,Sem.run_pure]
    cases m<;>simp [Addr.add]
theorem lop_ap_z {T I e:TypeId} {x y:Operand} {sz by_ szi byi:Nat} {kn k:IntKind} [hT:TI C.P T (.slice e) sz by_] [hI:TI C.P I (.int kn) szi byi] {ke:TK} {es be:Nat} [he:TI C.P e ke es be] {z:List Value} [hz:TZ C.P e z] {d n:Nat} {mo0:Option MO} {m:Nat} {v:Int}
    (ho:o.op=.call ⟨.builtin .append,#[x,y],#[T,I]⟩) (hdst:o.dst=some d) (hx:σ.look x=.p (.v (.slice none 0 0))) (hy:σ.look y=.p (.v (.int k v))) (hvm:v=m) (hm:σ.mem d=(n,mo0)) (hes:0 < es) (hzl:z.length=es)
    (h0:0 < m) (h63:m≤maxLen) (hby:m * be≤140737488355328) (hd:dOk C o.dst=true) :
    LOp C o σ ⟨.o (.osl d n es 0 m),[(d,(n+1,some (.buf e es [])))]⟩ (fun q=>q == d):=
  lop_gen (by simp) hd hm fun τ a w G hl hm' h=>by
    subst hvm
    have hv:=val_of h ((hl x (by simp [ho,Op.operands,Call.operands])).trans hx)
    have hw:=val_of h ((hl y (by simp [ho,Op.operands,Call.operands])).trans hy)
    have hlen:(G.μ d).length=n:=by have:=h.gens d;rw [hm' d (by simp),hm] at this;exact this
    obtain ⟨dd,hdd,hkk⟩:=hT.undd
    have:dd=.slice e:=by cases dd<;>simp [TK.of] at hkk;rw [hkk]
    subst this
    obtain ⟨di,hdi,hki⟩:=hI.undd
    have:di=.int kn:=by cases di<;>simp [TK.of] at hki;rw [hki]
    subst this
    obtain ⟨i,hi,his,hib⟩:=he.infoo
    have hzz:=hz.zero
    simp only [hi,Option.bind_some] at hzz
    cases hz0:i.zero with
    | none=>simp [hz0] at hzz
    | some zv=>
      simp only [hz0,Option.map_some,Option.some.injEq] at hzz
      have hzs:zv.cells.size=es:=by rw [← hzl,← hzz];simp
      have hsmall:m≤9223372036854775807:=by simp only [maxLen] at h63;omega
      have hge:=grownCap_ge w m 0 e
      have hcm:=grownCap_le_maxLen w m 0 e h63
      have hr:=Lib.run_append_nil_zeros (P:=C.P) w T I o.type e i zv k kn hdd hdi hi hz0 m h0 (by omega) (by omega) (by rw [hib];omega)
      refine ⟨.slice (some ⟨w.heap.size,0,none⟩) m (grownCap w m 0 e),w.drew.alloc (.cells (Builtin.zeroCells zv.cells m++Builtin.zeroCells zv.cells (grownCap w m 0 e - m)) e),(some w.heap.size,grownCap w m 0 e),[w.heap.size],by
        simp only [execOp,ho,resolve,invoke,builtin,Sem.run_bind,Sem.run_pure,Result.andThen_ok,List.map_toArray,List.map_cons,List.map_nil,hv,hw,hr],rfl,.same,rfl,by simp,fun k hk _=>Below.heap_alloc w.drew _ k hk,by simp,?_,?_⟩
      · refine ⟨hes,hcm,by simp,.inr ⟨w.heap.size,_,rfl,rfl,heap_alloc_new w.drew _,?_,fun i row hrow=>by simp at hrow⟩⟩
        simp only [Array.size_append,size_zeroCells,hzs,← Nat.add_mul]
        congr 1;omega
      · exact ⟨some w.heap.size,grownCap w m 0 e,mu_new hlen,by simpa using hge,by simp⟩
end ops
end Go.Aw
/- THE ABSTRACT WALK, part 22: parts of arrays; slices of arrays; strings and bytes; a slice written out that grows. Nothing here speaks of a program. -/
namespace Go.Aw
open Go Go.RowKit
set_option linter.unusedVariables false
set_option linter.unusedSimpArgs false
/-! ### Rows of a flat list -/
def rowOf {α:Type} (es:Nat) (l:List α) (i:Nat):List α:=(l.drop (i * es)).take es
def setRow {α:Type} (es:Nat) (l:List α) (i:Nat) (r:List α):List α:=l.take (i * es)++r++l.drop (i * es+es)
section rows
variable {α:Type} {es n i j:Nat} {l m r r':List α}
theorem rowOf_len (h:i * es+es≤l.length):(rowOf es l i).length=es:=by simp [rowOf];omega
theorem setRow_len (h:i * es+es≤l.length) (hr:r.length=es):(setRow es l i r).length=l.length:=by simp [setRow,hr];omega
theorem rowOf_get (k:Nat):(rowOf es l i)[k]?=if k < es then l[i * es+k]? else none:=by simp [rowOf,List.getElem?_take]
theorem setRow_get (h:i * es+es≤l.length) (hr:r.length=es) (k:Nat):(setRow es l i r)[k]?=if i * es≤k∧k < i * es+es then r[k - i * es]? else l[k]?:=by
 have h1:(l.take (i * es)).length=i * es:=by simp;omega
 unfold setRow
 by_cases hk:k < i * es
 ·rw [if_neg (by omega),List.append_assoc,List.getElem?_append_left (by omega),List.getElem?_take,if_pos hk]
 ·by_cases hk2:k < i * es+es
  ·rw [if_pos (by omega),List.getElem?_append_left (by rw [List.length_append,h1,hr];omega),List.getElem?_append_right (by omega),h1]
  ·rw [if_neg (by omega),List.getElem?_append_right (by rw [List.length_append,h1,hr];omega),List.length_append,h1,hr,List.getElem?_drop]
   congr 1;omega
theorem rowOf_setRow (h:i * es+es≤l.length) (hr:r.length=es):rowOf es (setRow es l i r) i=r:=by
 apply List.ext_getElem?
 intro k
 rw [rowOf_get]
 by_cases hk:k < es
 ·rw [if_pos hk,setRow_get h hr,if_pos (by omega)];congr 1;omega
 ·rw [if_neg hk,List.getElem?_eq_none (by omega)]
theorem mul_apart (h:i≠j):i * es+es≤j * es∨j * es+es≤i * es:=by
 rcases Nat.lt_or_gt_of_ne h with h|h
 ·exact .inl (by have:=Nat.mul_le_mul_right es h;rw [Nat.succ_mul] at this;exact this)
 ·exact .inr (by have:=Nat.mul_le_mul_right es h;rw [Nat.succ_mul] at this;exact this)
theorem rowOf_setRow_ne (h:i * es+es≤l.length) (hr:r.length=es) (hij:j≠i):rowOf es (setRow es l i r) j=rowOf es l j:=by
 apply List.ext_getElem?
 intro k
 rw [rowOf_get,rowOf_get]
 by_cases hk:k < es
 ·have:=mul_apart (es:=es) hij
  rw [if_pos hk,if_pos hk,setRow_get h hr,if_neg (by omega)]
 ·rw [if_neg hk,if_neg hk]
end rows
section ops
variable {C:Ctx} {o:Oper} {σ:St} {α:Type}
theorem lop_ix_asl {T e:TypeId} {x ix:Operand} {sz by_:Nat} {ke:TK} {sze be:Nat} {ob g off len cap:Nat} {k:IntKind} {i:Int}
  (ho:o.op=.indexAddr T x ix) (hT:TI C.P T (.slice e) sz by_) (he:TI C.P e ke sze be) (hx:σ.look x=.o (.asl ob g off len cap)) (hi:σ.look ix=.p (.v (.int k i))) (h0:0≤i) (hb:i < len) (hd:dOk C o.dst=true) :
  LOp C o σ ⟨.o (.ptr ob g (off+i.toNat * sze)),[]⟩ (fun _=>false):=
 lop_val hd fun τ a w G hl hm h=>by
  obtain ⟨b,c,h1,h2⟩:=look_of h ((hl x (by simp [ho,Op.operands])).trans hx)
  have e2:=val_of h ((hl ix (by simp [ho,Op.operands])).trans hi)
  obtain ⟨d,hdd,hk⟩:=hT.undd
  have:d=.slice e:=by cases d<;>simp [TK.of] at hk;rw [hk]
  subst this
  refine ⟨.pointer (some ⟨b,off+i.toNat * sze,none⟩),?_,b,c,h1,rfl⟩
  have hb':0≤i∧i < (len:Int):=⟨h0,hb⟩
  simp [execOp,ho,h2,e2,Instr.indexAt,asIntOf,run_underlying hdd,hb',he.run_sizeOf,add_addr]
theorem lop_sl_arr {T e:TypeId} {x:Operand} {n sz by_:Nat} {ke:TK} {sze be:Nat} {ob g off:Nat} (ho:o.op=.slice T x none none none) (hT:TI C.P T (.array n e) sz by_) (he:TI C.P e ke sze be) (hx:σ.look x=.o (.ptr ob g off)) (hd:dOk C o.dst=true) :
  LOp C o σ ⟨.o (.asl ob g off n n),[]⟩ (fun _=>false):=
 lop_val hd fun τ a w G hl hm h=>by
  obtain ⟨b,c,h1,h2⟩:=look_of h ((hl x (by simp [ho,Op.operands])).trans hx)
  obtain ⟨d,hdd,hk⟩:=hT.undd
  have:d=.array n e:=by cases d<;>simp [TK.of] at hk;rw [hk.1,hk.2]
  subst this
  refine ⟨.slice (some ⟨b,off,none⟩) n n,?_,b,c,h1,rfl⟩
  simp [execOp,ho,h2,Instr.sliceAt,Instr.sureAddr,run_underlying hdd,Instr.sliceBounds,he.run_sizeOf,Addr.add]
theorem lop_ld_part {f:α→AC} {l:List α} {T:TypeId} {x:Operand} {k:TK} {sz by_:Nat} {ob g n off:Nat} {ty:TypeId} (ho:o.op=.load T x) (hT:TI C.P T k sz by_) (hx:σ.look x=.o (.ptr ob g off)) (hm:σ.mem ob=(n,some (.box ty (l.map f)))) (hn:n=g+1)
  (hk:k.agg=true) (hl:off+sz≤l.length) (hd:dOk C o.dst=true):LOp C o σ ⟨.a (((l.drop off).take sz).map f),[]⟩ (fun y=>y == ob):=by
 have:=lop_load_box (o:=o) (hT:=hT) ho hx hm hn hk (by simpa using hl) hd
 rwa [← List.map_drop,← List.map_take] at this
theorem lop_st_part {f:α→AC} {l r:List α} {T:TypeId} {x y:Operand} {k:TK} {sz by_:Nat} {ob g n off:Nat} {ty:TypeId} (ho:o.op=.store T x y) (hT:TI C.P T k sz by_) (hdst:o.dst=none) (hx:σ.look x=.o (.ptr ob g off)) (hy:σ.look y=.a (r.map f)) (hm:σ.mem ob=(n,some (.box ty (l.map f)))) (hn:n=g+1)
  (hl:off+sz≤l.length) (hs:r.length=sz):LOp C o σ ⟨.un,[(ob,(n,some (.box ty ((l.take off++r++l.drop (off+sz)).map f))))]⟩ (fun z=>z == ob):=by
 have:=lop_store (o:=o) (hT:=hT) (s:=.agg (r.map f)) ho hdst hx hy hm hn (by simpa using hl) (by simpa [SV.cells] using hs)
 simp only [SV.cells] at this
 rwa [← List.map_take,← List.map_drop,← List.map_append,← List.map_append] at this
theorem lop_ix_part {f:α→AC} {l:List α} {T e:TypeId} {x ix:Operand} {n:Nat} {sz by_:Nat} {ke:TK} {sze be:Nat} {k:IntKind} {i:Int}
  (ho:o.op=.index T x ix) (hT:TI C.P T (.array n e) sz by_) (he:TI C.P e ke sze be) (hx:σ.look x=.a (l.map f)) (hi:σ.look ix=.p (.v (.int k i))) (h0:0≤i) (hb:i < n) (hk:ke.agg=true) (hl:i.toNat * sze+sze≤l.length) (hd:dOk C o.dst=true) :
  LOp C o σ ⟨.a (((l.drop (i.toNat * sze)).take sze).map f),[]⟩ (fun _=>false):=by
 have:=lop_index_arr (o:=o) (hT:=hT) (he:=he) ho hx hi ⟨h0,hb⟩ hk (by simpa using hl) hd
 rwa [← List.map_drop,← List.map_take] at this
theorem lop_ld_rw {f:α→AC} {l:List α} {T:TypeId} {x:Operand} {k:TK} {sz by_:Nat} {ob g n i:Nat} {ty:TypeId} (ho:o.op=.load T x) (hT:TI C.P T k sz by_) (hx:σ.look x=.o (.ptr ob g (0+i * sz))) (hm:σ.mem ob=(n,some (.box ty (l.map f)))) (hn:n=g+1)
  (hk:k.agg=true) (hl:i * sz+sz≤l.length) (hd:dOk C o.dst=true):LOp C o σ ⟨.a ((rowOf sz l i).map f),[]⟩ (fun y=>y == ob):=by
 have:=lop_ld_part ho hT hx hm hn hk (by omega) hd
 rwa [Nat.zero_add] at this
theorem lop_st_rw {f:α→AC} {l r:List α} {T:TypeId} {x y:Operand} {k:TK} {sz by_:Nat} {ob g n i:Nat} {ty:TypeId} (ho:o.op=.store T x y) (hT:TI C.P T k sz by_) (hdst:o.dst=none) (hx:σ.look x=.o (.ptr ob g (0+i * sz))) (hm:σ.mem ob=(n,some (.box ty (l.map f)))) (hy:σ.look y=.a (r.map f)) (hn:n=g+1)
  (hl:i * sz+sz≤l.length) (hs:r.length=sz):LOp C o σ ⟨.un,[(ob,(n,some (.box ty ((setRow sz l i r).map f))))]⟩ (fun z=>z == ob):=by
 have:=lop_st_part ho hT hdst hx hy hm hn (by omega) hs
 rwa [Nat.zero_add] at this
theorem lop_ix_rw {f:α→AC} {l:List α} {T e:TypeId} {x ix:Operand} {n:Nat} {sz by_:Nat} {ke:TK} {sze be:Nat} {k:IntKind} {i:Int}
  (ho:o.op=.index T x ix) (hT:TI C.P T (.array n e) sz by_) (he:TI C.P e ke sze be) (hx:σ.look x=.a (l.map f)) (hi:σ.look ix=.p (.v (.int k i))) (h0:0≤i) (hb:i < n) (hk:ke.agg=true) (hl:i.toNat * sze+sze≤l.length) (hd:dOk C o.dst=true) :
  LOp C o σ ⟨.a ((rowOf sze l i.toNat).map f),[]⟩ (fun _=>false):=lop_ix_part ho hT he hx hi h0 hb hk hl hd
theorem lop_ld_row {f:α→PVal} {l:List α} {T:TypeId} {x:Operand} {k:TK} {sz by_:Nat} (ho:o.op=.load T x) (hT:TI C.P T k sz by_) (hx:σ.look x=.p (.at_ (l.map f))) (hk:k.agg=true) (hz:0 < sz) (hl:l.length=sz) (hd:dOk C o.dst=true) :
  LOp C o σ ⟨.a (l.map fun n=>.p (f n)),[]⟩ (fun _=>false):=by
 have:=lop_load_at (o:=o) (hT:=hT) ho hx hk hz (by simp [hl]) hd
 rw [List.take_of_length_le (by simp [hl]),List.map_map] at this
 exact this
theorem vEqB_k {k:IntKind}:∀ (l m:List Nat),vEqB (l.map fun n:Nat=>Value.int k n) (m.map fun n:Nat=>Value.int k n)=decide (l=m)
 | [],[]=>by simp [vEqB]
 | [],_::_=>by simp [vEqB]
 | _::_,[]=>by simp [vEqB]
 | a::l,b::m=>by
  simp only [List.map_cons,vEqB,vEqB_k l m,vEq]
  by_cases h1:a=b<;>by_cases h2:l=m<;>simp [h1,h2]<;>omega
theorem hasL_k {k:IntKind} {n:Nat}:∀ {l:List Nat},l.length=n→HasL (List.replicate n (.int k)) (l.map fun n:Nat=>Value.int k n):=by
 induction n with
 | zero=>intro l h;obtain rfl:=List.eq_nil_of_length_eq_zero h;exact .nil
 | succ n ih=>
  intro l h
  cases l with
  | nil=>simp at h
  | cons a l=>rw [List.replicate_succ];exact .cons (by simp [LK.has]) (ih (by simpa using h))
section
variable {t t':TypeId} {x y:Operand} {k:IntKind} {n:Nat} {l m:List Nat}
theorem lop_eq_k (ho:o.op=.binOp .eql t x y t') (hT:EqT C.P t (List.replicate n (.int k))) (hx:σ.look x=.a (l.map fun n:Nat=>.p (.v (.int k n)))) (hy:σ.look y=.a (m.map fun n:Nat=>.p (.v (.int k n)))) (h1:l.length=n) (h2:m.length=n)
  (hagg:∃ k sz by_,TI C.P t k sz by_∧k.agg=true) (hd:dOk C o.dst=true):LOp C o σ ⟨.p (.v (.bool (decide (l=m)))),[]⟩ (fun _=>false):=by
 have:=lop_eqla ho hT hx hy .map .map (hasL_k h1) (hasL_k h2) hagg hd
 rwa [vEqB_k] at this
theorem lop_ne_k (ho:o.op=.binOp .neq t x y t') (hT:EqT C.P t (List.replicate n (.int k))) (hx:σ.look x=.a (l.map fun n:Nat=>.p (.v (.int k n)))) (hy:σ.look y=.a (m.map fun n:Nat=>.p (.v (.int k n)))) (h1:l.length=n) (h2:m.length=n)
  (hagg:∃ k sz by_,TI C.P t k sz by_∧k.agg=true) (hd:dOk C o.dst=true):LOp C o σ ⟨.p (.v (.bool (!decide (l=m)))),[]⟩ (fun _=>false):=by
 have:=lop_neqa ho hT hx hy .map .map (hasL_k h1) (hasL_k h2) hagg hd
 rwa [vEqB_k] at this
end
/-! ### Strings and bytes -/
def strOf (b:List Nat):ByteArray:=⟨(b.map UInt8.ofNat).toArray⟩
def okB (b:List Nat):Prop:=∀ n∈b,n < 256
theorem okB.nil:okB []:=fun n h=>by simp at h
theorem okB.cons {a:Nat} {b:List Nat} (ha:a < 256) (h:okB b):okB (a::b):=fun n hn=>by
 rcases List.mem_cons.1 hn with rfl|hn
 ·exact ha
 ·exact h n hn
theorem okB.append {a b:List Nat} (ha:okB a) (h:okB b):okB (a++b):=fun n hn=>by
 rcases List.mem_append.1 hn with hn|hn
 ·exact ha n hn
 ·exact h n hn
theorem strOf_size (b:List Nat):(strOf b).size=b.length:=by simp [strOf,ByteArray.size]
theorem strOf_inj {a b:List Nat} (ha:okB a) (hb:okB b) (h:strOf a=strOf b):a=b:=by
 have h1:a.map UInt8.ofNat=b.map UInt8.ofNat:=by
  have:=congrArg (fun s:ByteArray=>s.data.toList) h
  simpa [strOf] using this
 have key:∀ {l:List Nat},okB l→(l.map UInt8.ofNat).map UInt8.toNat=l:=fun {l} hl=>by
  rw [List.map_map]
  conv=>rhs;rw [← List.map_id l]
  refine List.map_congr_left fun n hn=>?_
  have:=hl n hn
  simp [Nat.mod_eq_of_lt this]
 have h2:=congrArg (List.map UInt8.toNat) h1
 rwa [key ha,key hb] at h2
def bytesOf (s:ByteArray):List Nat:=s.data.toList.map UInt8.toNat
theorem strOf_bytesOf (s:ByteArray):strOf (bytesOf s)=s:=by
 unfold strOf bytesOf
 cases s with
 | mk d=>
  have:(d.toList.map UInt8.toNat).map UInt8.ofNat=d.toList:=by
   rw [List.map_map]
   conv=>rhs;rw [← List.map_id d.toList]
   exact List.map_congr_left fun c _=>by simp
  simp only [this]
theorem bytesOf_ok (s:ByteArray):okB (bytesOf s):=fun n hn=>by
 unfold bytesOf at hn
 obtain ⟨c,_,rfl⟩:=List.mem_map.1 hn
 exact c.toNat_lt
theorem lop_eqls {t t':TypeId} {x y:Operand} {sz by_:Nat} {s u:ByteArray} (ho:o.op=.binOp .eql t x y t') (hT:TI C.P t .string sz by_) (hx:σ.look x=.p (.v (.string s))) (hy:σ.look y=.p (.v (.string u))) (hd:dOk C o.dst=true):LOp C o σ ⟨.p (.v (.bool (s.data.toList == u.data.toList))),[]⟩ (fun _=>false):=
 lop_bin ho hx hy (fun w=>by
  obtain ⟨d,hdd,hk⟩:=hT.undd
  have:d=.string:=by cases d<;>simp [TK.of] at hk;rfl
  subst this
  have e:(eqGuard .eql t x y (.string s) (.string u)).run C.P w=.ok () w:=by unfold eqGuard;simp [pure]
  simp only [Sem.run_bind,e,Result.andThen_ok,binOp_string_eql,ByteArray.toList_eq,Sem.run_pure]) rfl hd
theorem eq_str {a b:List Nat} (ha:okB a) (hb:okB b):((strOf a).data.toList == (strOf b).data.toList)=decide (a=b):=by
 by_cases h:a=b
 ·subst h;simp
 ·rw [decide_eq_false h,Bool.eq_false_iff]
  intro hc
  refine h (strOf_inj ha hb ?_)
  have h1:(strOf a).data.toList=(strOf b).data.toList:=by simpa using hc
  have h2:(strOf a).data=(strOf b).data:=Array.toList_inj.1 h1
  cases hs:strOf a;cases ht:strOf b
  rw [hs,ht] at h2;simp only at h2;rw [h2]
theorem lop_eqs {t t':TypeId} {x y:Operand} {sz by_:Nat} {a b:List Nat} (ho:o.op=.binOp .eql t x y t') (hT:TI C.P t .string sz by_) (hx:σ.look x=.p (.v (.string (strOf a)))) (hy:σ.look y=.p (.v (.string (strOf b)))) (ha:okB a) (hb:okB b) (hd:dOk C o.dst=true) :
  LOp C o σ ⟨.p (.v (.bool (decide (a=b)))),[]⟩ (fun _=>false):=by
 have:=lop_eqls ho hT hx hy hd;rwa [eq_str ha hb] at this
theorem lop_cv_sb {s d e:TypeId} {x:Operand} {sz by_ sz' by' sze be:Nat} {b:List Nat} (ho:o.op=.convert s d x) (hS:TI C.P s .string sz by_) (hD:TI C.P d (.slice e) sz' by') (hE:TI C.P e (.int .u8) sze be) (hx:σ.look x=.p (.v (.string (strOf b)))) (hb:okB b) (hl63:b.length≤maxLen) (hd:dOk C o.dst=true) :
  LOp C o σ ⟨.p (.sl 1 (b.map fun n:Nat=>[PVal.v (.int .u8 n)]) false),[]⟩ (fun _=>false):=
 lop_grow hd fun τ a w G hl hm h=>by
  have h1:=val_of h ((hl x (by simp [ho,Op.operands])).trans hx)
  obtain ⟨ds,hds,hks⟩:=hS.undd
  have:ds=.string:=by cases ds<;>simp [TK.of] at hks;rfl
  subst this
  obtain ⟨de,hde,hke⟩:=hE.undd
  have:de=.int .u8:=by cases de<;>simp [TK.of] at hke;rw [hke]
  subst this
  obtain ⟨dd,hdd,hkd⟩:=hD.undd
  have:dd=.slice e:=by cases dd<;>simp [TK.of] at hkd;rw [hkd]
  subst this
  have hrun:=run_bytes_of_string (P:=C.P) w s d e (strOf b) hds hdd hde
  rw [strOf_size] at hrun
  have hge:=grownCap_ge w b.length 0 e
  have hcm:=grownCap_le_maxLen w b.length 0 e hl63
  refine ⟨.slice (some ⟨w.heap.size,0,none⟩) b.length (grownCap w b.length 0 e),w.drew.alloc (.cells (bytesRow (strOf b) (grownCap w b.length 0 e)) e ((bytesRow (strOf b) (grownCap w b.length 0 e)).size,(bytesRow (strOf b) (grownCap w b.length 0 e)).size+1)),by simp only [execOp,ho,h1,Sem.run_bind,hrun,Result.andThen_ok,Sem.run_pure],⟨rfl,.same,rfl,by simp,fun k hk=>Below.heap_alloc w.drew _ k hk⟩,?_⟩
  refine ⟨some ⟨w.heap.size,0,none⟩,grownCap w b.length 0 e,by simp,by simpa using hge,hcm,by simp,.inr ⟨rfl,.inr ⟨Nat.le_refl _,by simp⟩,_,_,_,heap_alloc_new w.drew _,?_⟩⟩
  intro i row hrow
  rw [List.getElem?_map] at hrow
  cases hbi:b[i]? with
  | none=>rw [hbi] at hrow;cases hrow
  | some n=>
   rw [hbi] at hrow;simp at hrow;subst hrow
   have hi:i < b.length:=(List.getElem?_eq_some_iff.1 hbi).1
   have hn:=hb n (List.mem_of_getElem? hbi)
   refine ⟨rfl,fun j p hp=>?_⟩
   cases j with
   | succ j=>simp at hp
   | zero=>
    simp at hp;subst hp
    refine ⟨.int .u8 n,?_,rfl,rfl⟩
    simp only [Nat.zero_add,Nat.mul_one,Nat.add_zero,bytesRow]
    rw [Array.getElem?_append_left (by simp [strOf];exact hi)]
    simp [strOf,hbi,Nat.mod_eq_of_lt hn]
/-! ### Own slices -/
theorem lop_buildO {T e:TypeId} {n:Nat} {parts:Array (Nat × Operand)} {sz by_:Nat} [hT:TI C.P T (.slice e) sz by_] {ke:TK} {sze be:Nat} [he:TI C.P e ke sze be] {z:List Value} [hz:TZ C.P e z] {ps:List (Nat × List PVal)} {d n0:Nat} {mo0:Option MO} (ho:o.op=.buildSlice T n parts) (hdst:o.dst=some d) (hm0:σ.mem d=(n0,mo0))
  (hp:All2 (fun (x:Nat × Operand) (p:Nat × List PVal)=>x.1=p.1∧p.2.length=sze∧∃ s,σ.look x.2=.s s∧s.cells=p.2.map .p) parts.toList ps)
  (hi:ps.map (·.1)=List.range n) (hz0:0 < sze) (hsmall:n * sze≤2 ^ 24) (hd:dOk C o.dst=true):LOp C o σ ⟨.o (.osl d n0 sze 0 n),[(d,(n0+1,some (.buf e sze (rowsOf ps))))]⟩ (fun q=>q == d):=
 lop_gen (by simp) hd hm0 fun τ a w G hl hm' h=>by
  have hzz:=hz.zero
  have hglen:(G.μ d).length=n0:=by have:=h.gens d;rw [hm' d (by simp),hm0] at this;exact this
  cases hie:C.P.info? e with
  | none=>simp [hie] at hzz
  | some i=>
   simp only [hie,Option.bind_some] at hzz
   cases hz0':i.zero with
   | none=>simp [hz0'] at hzz
   | some zv=>
    obtain ⟨dd,hdd,hkk⟩:=hT.undd
    have:dd=.slice e:=by cases dd<;>simp [TK.of] at hkk;rw [hkk]
    subst this
    have hpl:ps.length=n:=by have:=congrArg List.length hi;simpa using this
    have hidx:∀ i p,ps[i]?=some p→p.1=0+i:=fun i p hpi=>by
     have:(ps.map (·.1))[i]?=some p.1:=by rw [List.getElem?_map,hpi];rfl
     rw [hi] at this
     have hlt:i < n:=by rw [← hpl];exact (List.getElem?_eq_some_iff.1 hpi).1
     simp [hlt] at this;omega
    have hph:All2 (fun (p:Nat × List PVal) (v:Nat × Value)=>p.1=v.1∧p.2.length=sze∧All2 (fun (q:PVal) u=>q.holds ⟨w,G.S⟩ u) p.2 v.2.cells.toList) ps (parts.toList.map fun (i,x)=>(i,a.eval x)):=by
     refine ⟨by simp [← hp.1],fun j p v hpj hv=>?_⟩
     rw [List.getElem?_map] at hv
     cases hx:parts.toList[j]? with
     | none=>rw [hx] at hv;cases hv
     | some x=>
      rw [hx] at hv;simp at hv;subst hv
      obtain ⟨k1,k2,s,k3,k4⟩:=hp.2 j x p hx hpj
      have h4:s.holds G.μ ⟨w,G.S⟩ (a.eval x.2):=look_of h ((hl x.2 (by
       simp only [ho,Op.operands,List.mem_toArray,List.mem_map]
       exact ⟨x,List.mem_of_getElem? hx,rfl⟩)).trans k3)
      have h5:=h4.cells
      rw [k4] at h5
      refine ⟨k1.symm,k2,by have:=h5.1;simpa using this,fun i q u hq hu=>?_⟩
      exact h5.2 i (.p q) u (by simp [hq]) hu
    obtain ⟨arr',h4,h5,_,h7⟩:=fill_slice (X:=⟨w,G.S⟩) (μ:=G.μ) sze ps _ 0 ((Array.range (n * sze)).map (fun j=>zv.cells[j % zv.cells.size]!)) hph hidx (by simp [hpl])
    have hn63:n≤maxLen:=by
     have:n≤n * sze:=Nat.le_mul_of_pos_right n hz0
     simp only [maxLen];omega
    refine ⟨.slice (some ⟨w.heap.size,0,none⟩) n n,w.alloc (.cells arr' e),(some w.heap.size,n),[w.heap.size],?_,rfl,.same,rfl,by simp,fun k hk _=>Below.heap_alloc w _ k hk,by simp,?_,?_⟩
    ·have hparts:(parts.map fun (i,x)=>(i,a.eval x)).toList=parts.toList.map fun (i,x)=>(i,a.eval x):=by simp
     have h4':Instr.fill (fun i=>some (i * sze,sze)) ((Array.range (n * sze)).map (fun j=>(if n * sze=0 then #[] else zv.cells)[j % (if n * sze=0 then #[] else zv.cells).size]!)) (parts.map fun (i,x)=>(i,a.eval x)).toList=some arr':=by
      rw [hparts]
      by_cases hn0:n * sze=0
      ·have e0:∀ f:Nat→Value,(Array.range 0).map f = #[]:=fun f=>by simp [Array.range]
       rw [hn0,e0] at h4 ⊢
       exact h4
      ·simp only [hn0,if_false];exact h4
     simp only [execOp,ho,Instr.buildSlice,Sem.run_bind,run_underlying hdd,Result.andThen_ok,he.run_sizeOf]
     rw [if_neg (by omega)]
     split
     ·rename_i hn0
      simp only [hn0,if_true] at h4' ⊢
      simp only [Sem.run_bind,Result.andThen_ok,Sem.run_pure,h4',newRow,run_newObj_alloc]
     ·rename_i hn0
      simp only [hn0,if_false] at h4'
      have hz1:(zeroValue e).run C.P w=.ok zv w:=by simp [zeroValue,typeInfo,hie,hz0']
      simp only [Sem.run_bind,hz1,Result.andThen_ok,Sem.run_pure,h4',newRow,run_newObj_alloc]
    ·refine ⟨hz0,hn63,by simp [rowsOf,hpl],.inr ⟨w.heap.size,arr',rfl,rfl,heap_alloc_new w _,by rw [h5];simp,?_⟩⟩
     intro i row hrow
     simp only [rowsOf,List.getElem?_map] at hrow
     cases hpi:ps[i]? with
     | none=>rw [hpi] at hrow;cases hrow
     | some p=>
      rw [hpi] at hrow;simp at hrow;subst hrow
      have hi2:i < parts.toList.length:=by rw [hp.1];exact (List.getElem?_eq_some_iff.1 hpi).1
      obtain ⟨_,k2,_⟩:=hp.2 i _ p (List.getElem?_eq_getElem hi2) hpi
      refine ⟨k2,fun j q hq=>?_⟩
      obtain ⟨u,hu,hqu⟩:=h7 i p hpi j q hq
      exact ⟨u,by simpa using hu,q.mono (x:=⟨w,G.S⟩) (fun b hb=>⟨hb,Below.heap_alloc w _ b (h.sbd b hb).1⟩) hqu⟩
    ·exact ⟨some w.heap.size,n,mu_new hglen,by simp,by simp⟩
section
variable {T e:TypeId} {sz by_:Nat} {ke:TK} {es be:Nat} {z:List Value} {d n0:Nat} {mo0:Option MO}
theorem lop_bo0 (ho:o.op=.buildSlice T 0 #[]) (hT:TI C.P T (.slice e) sz by_) (he:TI C.P e ke es be) (hz:TZ C.P e z) (hdst:o.dst=some d) (hm0:σ.mem d=(n0,mo0)) (hes:(0:Nat) < es) (hd:dOk C o.dst=true):LOp C o σ ⟨.o (.osl d n0 es 0 0),[(d,(n0+1,some (.buf e es [])))]⟩ (fun q=>q == d):=
 lop_buildO (ps:=[]) ho hdst hm0 .nil rfl hes (by simp) hd
theorem lop_bo1 {x0:Operand} {p0:PVal} (ho:o.op=.buildSlice T 1 #[(0,x0)]) (hT:TI C.P T (.slice e) sz by_) (he:TI C.P e ke 1 be) (hz:TZ C.P e z) (hdst:o.dst=some d) (hm0:σ.mem d=(n0,mo0)) (h0:σ.look x0=.p p0) (hd:dOk C o.dst=true):LOp C o σ ⟨.o (.osl d n0 1 0 1),[(d,(n0+1,some (.buf e 1 [[p0]])))]⟩ (fun q=>q == d):=
 lop_buildO (ps:=[(0,[p0])]) ho hdst hm0 (.cons ⟨rfl,rfl,_,h0,rfl⟩ .nil) rfl (by decide) (by decide) hd
end
theorem lop_ap_oa {q:α→PVal} {l m:List α} {T e ty:TypeId} {x y:Operand} {sz by_:Nat} {ke:TK} {be:Nat} {z:List Value} {ob g n len ob2 g2 n2 i k cap:Nat} (ho:o.op=.call ⟨.builtin .append,#[x,y],#[T,T]⟩) (hT:TI C.P T (.slice e) sz by_) (he:TI C.P e ke 1 be) (hz:TZ C.P e z)
  (hx:σ.look x=.o (.osl ob g 1 0 len)) (hm:σ.mem ob=(n,some (.buf e 1 (m.map fun a=>[q a])))) (hn:n=g+1) (hlr:len=m.length) (hy:σ.look y=.o (.asl ob2 g2 (0+i * k) k cap)) (hm2:σ.mem ob2=(n2,some (.box ty (l.map fun a=>.p (q a))))) (hn2:n2=g2+1) (hl:i * k+k≤l.length)
  (hzl:z.length=1) (h63:m.length+k≤maxLen) (hby:(m.length+k) * be≤140737488355328) (hd:dOk C o.dst=true) :
  LOp C o σ ⟨.o (.osl ob n 1 0 (m++rowOf k l i).length),[(ob,(n+1,some (.buf e 1 ((m++rowOf k l i).map fun a=>[q a]))))]⟩ (fun q=>q == ob2||q == ob):=by
 rw [Nat.zero_add] at hy
 unfold rowOf
 generalize i * k=off at hy hl ⊢
 have hlen:((l.drop off).take k).length=k:=by simp;omega
 have hsrc:SrcOk C σ y 1 (((l.drop off).take k).map fun a=>[q a]) (fun y=>y == ob2):=src_asl hy hm2 hn2 (by simpa using hlen) fun i row hr=>by
  rw [List.getElem?_map] at hr
  cases hi:((l.drop off).take k)[i]? with
  | none=>rw [hi] at hr;cases hr
  | some a=>
   rw [hi] at hr;simp at hr;subst hr
   refine ⟨rfl,fun j p hp=>?_⟩
   cases j with
   | succ j=>simp at hp
   | zero=>
    simp at hp;subst hp
    rw [List.getElem?_take] at hi
    split at hi
    ·simp at hi;simp [hi]
    ·cases hi
 have:=lop_append_osl (o:=o) ho hx hm hn (by simpa using hlr) hsrc hzl (by rw [List.length_map,List.length_map,hlen];exact h63) (by rw [List.length_map,List.length_map,hlen];exact hby) hd
 simpa using this
end ops
end Go.Aw
/- THE ABSTRACT WALK, part 23: steps over parts of arrays, strings, slices that grow. Nothing here speaks of a program. -/
namespace Go.Aw
open Go Go.RowKit
set_option linter.unusedVariables false
set_option linter.unusedSimpArgs false
theorem lopB {C:Ctx} {o:Oper} {σ:St} {e:Eff} {ro:Nat→Bool} (h:LOp C o σ e ro:=by
  first
     | (apply gIndex;(focus rfl);apply lop_ix_asl;(focus rfl);(focus exact inferInstance);(focus exact inferInstance);(focus rfl);(focus rfl);(focus omega);(focus omega);(focus rfl))
     | (apply gLoad;(focus rfl);first|(apply lop_ld_rw;(focus rfl);(focus exact inferInstance);(focus rfl);(focus rfl);(focus rfl);(focus rfl);(focus first|assumption|omega|(exact rowOf_len (by omega))|(simp only [List.length_map];omega)|(simp [*];done));(focus rfl))|(apply lop_ld_row;(focus rfl);(focus exact inferInstance);(focus rfl);(focus rfl);(focus decide);(focus first|assumption|omega|(exact rowOf_len (by omega))|(simp only [List.length_map];omega)|(simp [*];done));(focus rfl)))
     | (apply gBin;(focus rfl);first|(apply lop_eq_k;(focus rfl);(focus exact inferInstance);(focus rfl);(focus rfl);(focus first|assumption|omega|(exact rowOf_len (by omega))|(simp only [List.length_map];omega)|(simp [*];done));(focus first|assumption|omega|(exact rowOf_len (by omega))|(simp only [List.length_map];omega)|(simp [*];done));(focus exact ⟨_,_,_,inferInstance,rfl⟩);(focus rfl))|(apply lop_ne_k;(focus rfl);(focus exact inferInstance);(focus rfl);(focus rfl);(focus first|assumption|omega|(exact rowOf_len (by omega))|(simp only [List.length_map];omega)|(simp [*];done));(focus first|assumption|omega|(exact rowOf_len (by omega))|(simp only [List.length_map];omega)|(simp [*];done));(focus exact ⟨_,_,_,inferInstance,rfl⟩);(focus rfl))|(apply lop_eqs;(focus rfl);(focus exact inferInstance);(focus rfl);(focus rfl);(focus assumption);(focus assumption);(focus rfl))|(apply lop_nes;(focus rfl);(focus exact inferInstance);(focus rfl);(focus rfl);(focus assumption);(focus assumption);(focus rfl)))
     | (apply gCallB;(focus rfl);first|(apply lop_ap_oa;(focus rfl);(focus exact inferInstance);(focus exact inferInstance);(focus exact inferInstance);(focus rfl);(focus rfl);(focus rfl);(focus rfl);(focus rfl);(focus rfl);(focus rfl);(focus first|assumption|omega|(exact rowOf_len (by omega))|(simp only [List.length_map];omega)|(simp [*];done));(focus rfl);(focus first|(simp only [maxLen,List.length_append,List.length_cons,List.length_nil,List.length_take,List.length_drop,List.length_map];omega)|omega);(focus first|(simp only [maxLen,List.length_append,List.length_cons,List.length_nil,List.length_take,List.length_drop,List.length_map];omega)|omega);(focus rfl))|(apply lop_ap_ow;(focus rfl);(focus exact inferInstance);(focus exact inferInstance);(focus exact inferInstance);(focus rfl);(focus rfl);(focus rfl);(focus rfl);(focus rfl);(focus rfl);(focus rfl);(focus first|assumption|omega|(exact rowOf_len (by omega))|(simp only [List.length_map];omega)|(simp [*];done));(focus rfl);(focus first|(simp only [maxLen,List.length_append,List.length_cons,List.length_nil,List.length_take,List.length_drop,List.length_map];omega)|omega);(focus first|(simp only [maxLen,List.length_append,List.length_cons,List.length_nil,List.length_take,List.length_drop,List.length_map];omega)|omega);(focus rfl))|(apply lop_ap_ex1;(focus rfl);(focus exact inferInstance);(focus exact inferInstance);(focus exact inferInstance);(focus rfl);(focus rfl);(focus rfl);(focus rfl);(focus first|(simp only [maxLen,List.length_append,List.length_cons,List.length_nil,List.length_take,List.length_drop,List.length_map];omega)|omega);(focus first|(simp only [maxLen,List.length_append,List.length_cons,List.length_nil,List.length_take,List.length_drop,List.length_map];omega)|omega);(focus rfl)))
     | (apply gSlice;(focus rfl);apply lop_sl_arr;(focus rfl);(focus exact inferInstance);(focus exact inferInstance);(focus rfl);(focus rfl))
     | (apply lop_cv_bs;(focus rfl);(focus exact inferInstance);(focus exact inferInstance);(focus exact inferInstance);(focus rfl);(focus rfl))
     | (apply lop_cv_sb;(focus rfl);(focus exact inferInstance);(focus exact inferInstance);(focus exact inferInstance);(focus rfl);(focus assumption);(focus first|(simp only [maxLen,List.length_append,List.length_cons,List.length_nil,List.length_take,List.length_drop,List.length_map];omega)|omega);(focus rfl))
     | (apply lop_ix_rw;(focus rfl);(focus exact inferInstance);(focus exact inferInstance);(focus rfl);(focus rfl);(focus omega);(focus omega);(focus rfl);(focus first|assumption|omega|(exact rowOf_len (by omega))|(simp only [List.length_map];omega)|(simp [*];done));(focus rfl))
     | exact lopA
     | fail):LOp C o σ e ro:=h
theorem lopO {C:Ctx} {o:Oper} {σ:St} {e:Eff} {ro:Nat→Bool} (h:LOp C o σ e ro:=by
  first|(apply lop_bo1;(focus rfl);(focus exact inferInstance);(focus exact inferInstance);(focus exact inferInstance);(focus rfl);(focus rfl);(focus rfl);(focus rfl))|(apply lop_bo0;(focus rfl);(focus exact inferInstance);(focus exact inferInstance);(focus exact inferInstance);(focus rfl);(focus rfl);(focus decide);(focus rfl))|exact lopB|fail):LOp C o σ e ro:=h
theorem stoB {C:Ctx} {o:Oper} {σ:St} {e:Eff} {ro:Nat→Bool} (h:LOp C o σ e ro:=by
  first|(apply lop_st_rw;(focus rfl);(focus exact inferInstance);(focus rfl);(focus rfl);(focus rfl);(focus rfl);(focus rfl);(focus first|assumption|omega|(exact rowOf_len (by omega))|(simp only [List.length_map];omega)|(simp [*];done));(focus first|assumption|omega|(exact rowOf_len (by omega))|(simp only [List.length_map];omega)|(simp [*];done)))|exact stoA|fail):LOp C o σ e ro:=h
section steps
variable {C:Ctx} {ops:Array Oper} {o:Oper} {rest:List Oper} {K:St→Prop} {σ:St} {e:Eff} {ro:Nat→Bool} {W:List (Nat × Nat)} {i:Nat}
theorem rnB {d:Nat} (hg:Guard ops σ o true:=by first|exact gd_n rfl rfl|exact gd_t rfl rfl rfl rfl|exact gd_t rfl rfl rfl (by assumption)) (hd:o.dst=some d:=by rfl) (h:LOp C o σ e ro:=by exact lopB) (hk:RunN C ops rest K (e.app (some d) σ)):RunN C ops (o::rest) K σ:=rn_any hg hd h hk
theorem rkB {d:Nat} (hg:Guard ops σ o true:=by first|exact gd_n rfl rfl|exact gd_t rfl rfl rfl rfl|exact gd_t rfl rfl rfl (by assumption)) (hd':o.dst=some d:=by rfl) (hd:dOk C o.dst=true:=by rfl) (h:LOp C o σ e ro:=by exact lopB) (hro:∀ x,ro x=true→okObj ops W i x=true:=by first|exact fun _=>ro_none|exact ro_one rfl|exact ro_one (by kernel_rfl)|exact ro_kIn (by decide)) (hob:∀ p∈e.obj,(i,p.1)∈W:=by first|exact ob_none|exact ob_one (by decide)|decide) (hk:RunK C ops W (i+1) rest K (e.app (some d) σ)):RunK C ops W i (o::rest) K σ:=rk_wr hg hd' hd h hro hob hk
theorem rnO {d:Nat} (hg:Guard ops σ o true:=by first|exact gd_n rfl rfl|exact gd_t rfl rfl rfl rfl|exact gd_t rfl rfl rfl (by assumption)) (hd:o.dst=some d:=by rfl) (h:LOp C o σ e ro:=by exact lopO) (hk:RunN C ops rest K (e.app (some d) σ)):RunN C ops (o::rest) K σ:=rn_any hg hd h hk
theorem rnSB (hg:Guard ops σ o true:=by first|exact gd_n rfl rfl|exact gd_t rfl rfl rfl rfl|exact gd_t rfl rfl rfl (by assumption)) (hd:o.dst=none:=by rfl) (h:LOp C o σ e ro:=by exact stoB) (hk:RunN C ops rest K (e.app none σ)):RunN C ops (o::rest) K σ:=rn_sto hg hd h hk
theorem rkSB (hg:Guard ops σ o true:=by first|exact gd_n rfl rfl|exact gd_t rfl rfl rfl rfl|exact gd_t rfl rfl rfl (by assumption)) (hd':o.dst=none:=by rfl) (h:LOp C o σ e ro:=by exact stoB) (hro:∀ x,ro x=true→okObj ops W i x=true:=by first|exact fun _=>ro_none|exact ro_one rfl|exact ro_one (by kernel_rfl)|exact ro_kIn (by decide)) (hob:∀ p∈e.obj,(i,p.1)∈W:=by first|exact ob_none|exact ob_one (by decide)|decide) (hk:RunK C ops W (i+1) rest K (e.app none σ)):RunK C ops W i (o::rest) K σ:=rk_sto hg hd' h hro hob hk
end steps
end Go.Aw
/- THE ABSTRACT WALK, part 24: scopes with a label to which one jumps back. Nothing here speaks of a program. -/
namespace Go.Aw
open Go Go.RowKit
set_option linter.unusedVariables false
set_option linter.unusedSimpArgs false
theorem stepR_scope {P:Program} {b:Frame} {a:Act} {k:List Item} {cs:List Frame} {w:World} {c:Code} :
  step P (lone (b.atR a (.code (.scope c)::k)) cs w)=.next (lone (b.atR a (.code c::.inScope c::k)) cs w):=
 step_lone_go (by simp [stepG,stepG.exec,Frame.atR])
theorem stepR_inScope {P:Program} {b:Frame} {a:Act} {k:List Item} {cs:List Frame} {w:World} {c:Code} :
  step P (lone (b.atR a (.inScope c::k)) cs w)=.next (lone (b.atR a k) cs w):=
 step_lone_go (by simp [stepG,stepG.exec,Frame.atR])
theorem pass_scope {I:Machine→Prop} {P:Program} {m:Machine} {b:Frame} {k:List Item} {cs:List Frame} {e:Exit} {a:Act} {w:World} {c:Code} (h1:e≠.normal) (h2:∀ l,e≠.goto l) (h:ArrivesIn I P m b (.inScope c::k) cs e a w):ArrivesIn I P m b k cs e a w:=by
 cases e with
 | normal=>exact absurd rfl h1
 | exit id=>exact ⟨fun k' hk=>h.1 k' (by simpa [exitTo] using hk),fun hr hk=>h.2 hr (by simpa [exitTo] using hk)⟩
 | goto l=>exact absurd rfl (h2 l)
 | ret=>exact h
 | panic chain=>exact h
 | outgrown=>exact h
theorem aw_scope {ι:Type} {C:Ctx} {Q:Exit→St→Prop} {σ:St} {c rest:Code} (l:Nat) (I:ι→St→Prop) (m:ι→Nat) (hf:findLabel c l=some rest)
  (first:AW C c (fun e s'=>match e with | .goto l'=>l'=l∧∃ j,I j s'|e=>Q e s') σ)
  (pass:∀ i s,I i s→AW C rest (fun e s'=>match e with | .goto l'=>l'=l∧∃ j,m j < m i∧I j s'|e=>Q e s') s):AW C (.scope c) Q σ:=by
 intro a w hr b k cs hro hb hroom
 have hg:gotoIn l (.inScope c::k)=some (.code rest::.inScope c::k):=by simp [gotoIn,hf]
 have key:∀ n i s a w,m i=n→I i s→Rel C s a w→
   ∃ e a' w',(∃ σ',Q e σ'∧Rel C σ' a' w')∧ArrivesIn (Machine.fenced C.P (fz C.ro)) C.P (lone (b.atR a (.code rest::.inScope c::k)) cs w) b k cs e a' w':=by
  intro n
  induction n using Nat.strongRecOn with
  | _ n ih=>
   intro i s a w hn hI hr
   obtain ⟨e,a₁,w₁,⟨s₁,hq,hr₁⟩,harr⟩:=pass i s hI a w hr b (.inScope c::k) cs hro hb hroom
   cases e with
   | normal=>exact ⟨.normal,a₁,w₁,⟨s₁,hq,hr₁⟩,StepsIn.trans harr (.one (fenced_calm hb hroom rfl) stepR_inScope)⟩
   | goto l'=>
    obtain ⟨rfl,j,hlt,hI₁⟩:=hq
    obtain ⟨e₂,a₂,w₂,hq₂,harr₂⟩:=ih (m j) (hn ▸ hlt) j s₁ a₁ w₁ rfl hI₁ hr₁
    exact ⟨e₂,a₂,w₂,hq₂,.of_steps (harr.1 _ hg) harr₂⟩
   | exit id=>exact ⟨_,a₁,w₁,⟨s₁,hq,hr₁⟩,pass_scope (by simp) (by simp) harr⟩
   | ret=>exact ⟨_,a₁,w₁,⟨s₁,hq,hr₁⟩,pass_scope (by simp) (by simp) harr⟩
   | panic ch=>exact ⟨_,a₁,w₁,⟨s₁,hq,hr₁⟩,pass_scope (by simp) (by simp) harr⟩
   | outgrown=>exact ⟨_,a₁,w₁,⟨s₁,hq,hr₁⟩,pass_scope (by simp) (by simp) harr⟩
 have h0:(lone (b.atR a (.code (.scope c)::k)) cs w).fenced C.P (fz C.ro):=fenced_calm hb hroom rfl
 obtain ⟨e,a₁,w₁,⟨s₁,hq,hr₁⟩,harr⟩:=first a w hr b (.inScope c::k) cs hro hb hroom
 cases e with
 | normal=>exact ⟨.normal,a₁,w₁,⟨s₁,hq,hr₁⟩,.head h0 stepR_scope (StepsIn.trans harr (.one (fenced_calm hb hroom rfl) stepR_inScope))⟩
 | goto l'=>
  obtain ⟨rfl,j,hI₁⟩:=hq
  obtain ⟨e₂,a₂,w₂,hq₂,harr₂⟩:=key _ j s₁ a₁ w₁ rfl hI₁ hr₁
  exact ⟨e₂,a₂,w₂,hq₂,.of_steps (.head h0 stepR_scope (harr.1 _ hg)) harr₂⟩
 | exit id=>exact ⟨_,a₁,w₁,⟨s₁,hq,hr₁⟩,.of_steps (.one h0 stepR_scope) (pass_scope (by simp) (by simp) harr)⟩
 | ret=>exact ⟨_,a₁,w₁,⟨s₁,hq,hr₁⟩,.of_steps (.one h0 stepR_scope) (pass_scope (by simp) (by simp) harr)⟩
 | panic ch=>exact ⟨_,a₁,w₁,⟨s₁,hq,hr₁⟩,.of_steps (.one h0 stepR_scope) (pass_scope (by simp) (by simp) harr)⟩
 | outgrown=>exact ⟨_,a₁,w₁,⟨s₁,hq,hr₁⟩,.of_steps (.one h0 stepR_scope) (pass_scope (by simp) (by simp) harr)⟩
theorem aws_scopeS {ι:Type} {C:Ctx} {Q:Exit→St→Prop} {σ:St} {c y:Code} {k:List Code} (l:Nat) (s0:St) (W M:List Nat) (e:ι→List (Nat × AV)) (m:ι→List (Nat × (Nat × Option MO))) (P:ι→Prop) (μ:ι→Nat) (hf:findLabel c l=some (.seq .skip y))
  (pass:∀ i β γ,P i→AWs C [y] (fun x s'=>match x with | .goto l'=>l'=l∧∃ j τ,μ j < μ i∧P j∧Says C s' τ∧Fr' s0 W (e j) M (m j) τ | .normal=>AWs C k Q s'|x=>Q x s') (s0.fr W β (e i) M γ (m i)))
  (first:(∀ i s,P i→Fr' s0 W (e i) M (m i) s→AWs C [y] (fun x s'=>match x with | .goto l'=>l'=l∧∃ j τ,P j∧Says C s' τ∧Fr' s0 W (e j) M (m j) τ | .normal=>AWs C k Q s'|x=>Q x s') s)→
   AWs C [c] (fun x s'=>match x with | .goto l'=>l'=l∧∃ j τ,P j∧Says C s' τ∧Fr' s0 W (e j) M (m j) τ | .normal=>AWs C k Q s'|x=>Q x s') σ):AWs C (.scope c::k) Q σ:=by
 have hp:∀ i s,P i→Fr' s0 W (e i) M (m i) s→AWs C [y] (fun x s'=>match x with | .goto l'=>l'=l∧∃ j τ,μ j < μ i∧P j∧Says C s' τ∧Fr' s0 W (e j) M (m j) τ | .normal=>AWs C k Q s'|x=>Q x s') s:=
  fun i s hP ⟨β,γ,ht⟩=>by subst ht;exact pass i β γ hP
 have h1:=first fun i s hP hs=>aws_mono (fun x s' q=>by
  cases x with
  | goto l'=>obtain ⟨h1,j,τ,_,h2⟩:=q;exact ⟨h1,j,τ,h2⟩
  | _=>exact q) (hp i s hP hs)
 refine aw_mono (aw_scope (Q:=fun x s'=>match x with | .normal=>AWs C k Q s'|x=>Q x s') l (fun i s=>∃ τ,Says C s τ∧P i∧Fr' s0 W (e i) M (m i) τ) μ hf ?_ ?_) (fun x s q=>?_)
 ·refine aw_mono (aws_one h1) fun x s q=>?_
  cases x with
  | goto l'=>obtain ⟨h1,j,τ,h2,h3,h4⟩:=q;exact ⟨h1,j,τ,h3,h2,h4⟩
  | _=>exact q
 ·rintro i s ⟨τ,hs,hP,hF⟩
  refine aw_says hs (aws_one (aws_seq ?_))
  refine aws_skip (aws_mono (fun x s' q=>?_) (hp i τ hP hF))
  cases x with
  | goto l'=>obtain ⟨h1,j,τ,h2,h3,h4,h5⟩:=q;exact ⟨h1,j,h2,τ,h4,h3,h5⟩
  | _=>exact q
 ·cases x<;>exact q
end Go.Aw
/- THE ABSTRACT WALK, part 14: what is read of plain arguments, type by type; a law's statement out of its contract. Nothing here speaks of a program. -/
namespace Go.Aw
open Go Go.RowKit
set_option linter.unusedVariables false
set_option linter.unusedSimpArgs false
def whole (w:World):Wd:=⟨w,fun b=>b < w.heap.size⟩
def Reads (P:Program) (T:TypeId) (α:Type) (row:α→List PVal) (ok:α→Prop):Prop:=
 ∀ (H:Type) (enc:TypeId × Value→H) (w:World) (fuel:Nat) (cs:List Value) (x:DataW H × List MemPlace),
  DataW.trod enc P w 0 (fun _=>true) true fuel T cs=some x→∃ a,ok a∧All2 (fun p c=>p.holds (whole w) c) (row a) cs
theorem Reads.imp {P:Program} {T:TypeId} {α β:Type} {row:α→List PVal} {ok:α→Prop} (h:Reads P T α row ok) {row':β→List PVal} {ok':β→Prop} (f:α→β) (h1:∀ a,row' (f a)=row a) (h2:∀ a,ok a→ok' (f a)):Reads P T β row' ok':=
 fun H enc w fuel cs x hx=>by
  obtain ⟨a,ha,hh⟩:=h H enc w fuel cs x hx
  exact ⟨f a,h2 a ha,by rw [h1];exact hh⟩
theorem reads_int {P:Program} {T:TypeId} {k:IntKind} {sz by_:Nat} (hT:TI P T (.int k) sz by_):Reads P T Int (fun n=>[.k k n]) (fun n=>k.min≤n∧n≤k.max):=by
 intro H enc w fuel cs x h
 obtain ⟨d,hd,hk⟩:=hT.undd
 cases d<;>simp [TK.of] at hk
 subst hk
 cases fuel with
 | zero=>simp [DataW.trod] at h
 | succ f=>
  simp only [DataW.trod,hd] at h
  split at h<;>try (first|(simp at h;done)|(exfalso;simp_all;done))
  rename_i k' k'' n he
  simp only [Option.some.injEq,TypeDesc.int.injEq] at he
  subst he
  split at h
  ·rename_i hw
   obtain ⟨rfl,hw⟩:=hw
   exact ⟨n,by simpa [Lit.wf] using hw,.cons ⟨rfl,rfl⟩ .nil⟩
  ·simp at h
theorem reads_string {P:Program} {T:TypeId} {sz by_:Nat} (hT:TI P T .string sz by_):Reads P T ByteArray (fun s=>[.v (.string s)]) (fun s=>s.size≤maxLen):=by
 intro H enc w fuel cs x h
 obtain ⟨d,hd,hk⟩:=hT.undd
 cases d<;>simp [TK.of] at hk
 cases fuel with
 | zero=>simp [DataW.trod] at h
 | succ f=>
  simp only [DataW.trod,hd] at h
  split at h<;>simp_all
  rename_i s
  exact ⟨s,h.1,.cons ⟨rfl,rfl⟩ .nil⟩
theorem reads_many {P:Program} {e:TypeId} {α:Type} {row:α→List PVal} {ok:α→Prop} (he:Reads P e α row ok) {H:Type} {enc:TypeId × Value→H} {w:World} {fuel es:Nat} {cellsAt:Nat→Option (List Value)} (hlen:∀ i cs,cellsAt i=some cs→cs.length=es) :
  ∀ (is:List Nat) (xs:List (DataW H × List MemPlace)),is.mapM (fun i=>(cellsAt i).bind (DataW.trod enc P w 0 (fun _=>true) true fuel e))=some xs→
   ∃ l:List α,l.length=is.length∧(∀ a∈l,ok a)∧∀ (k:Nat) a i,l[k]?=some a→is[k]?=some i→(row a).length=es∧∃ cs,cellsAt i=some cs∧All2 (fun p c=>p.holds (whole w) c) (row a) cs
 | [],xs,h=>⟨[],rfl,by simp,by simp⟩
 | i::is,xs,h=>by
  simp only [List.mapM_cons] at h
  cases hc:cellsAt i with
  | none=>simp [hc] at h
  | some cs=>
   cases ht:DataW.trod enc P w 0 (fun _=>true) true fuel e cs with
   | none=>simp [hc,ht] at h
   | some x=>
    cases hm:is.mapM (fun i=>(cellsAt i).bind (DataW.trod enc P w 0 (fun _=>true) true fuel e)) with
    | none=>simp [hc,ht,hm] at h
    | some ys=>
     obtain ⟨a,ha,hh⟩:=he H enc w fuel cs x ht
     obtain ⟨l,h1,h2,h3⟩:=reads_many he hlen is ys hm
     refine ⟨a::l,by simp [h1],by intro b hb;simp at hb;rcases hb with rfl|hb;exact ha;exact h2 b hb,fun k b j hb hj=>?_⟩
     cases k with
     | zero=>simp at hb hj;subst hb;subst hj;exact ⟨hh.1.trans (hlen _ _ hc),cs,hc,hh⟩
     | succ k=>exact h3 k b j (by simpa using hb) (by simpa using hj)
theorem cells_row {w:World} {a:Addr} {n:Nat} {cs:List Value} (h:w.cells? 0 a n=some cs):cs.length=n∧∀ (j:Nat) c,cs[j]?=some c→w.cell? (a.add j)=some c:=by
 simp only [World.cells?,Nat.zero_le,if_true] at h
 have key:∀ (is:List Nat) (cs:List Value),is.mapM (fun i=>w.cell? (a.add i))=some cs→cs.length=is.length∧∀ (j:Nat) c i,cs[j]?=some c→is[j]?=some i→w.cell? (a.add i)=some c:=by
  intro is
  induction is with
  | nil=>intro cs h;simp at h;subst h;simp
  | cons i is ih=>
   intro cs h
   simp only [List.mapM_cons] at h
   cases hc:w.cell? (a.add i) with
   | none=>simp [hc] at h
   | some c=>
    cases hm:is.mapM (fun i=>w.cell? (a.add i)) with
    | none=>simp [hc,hm] at h
    | some ds=>
     simp [hc,hm] at h
     subst h
     obtain ⟨h1,h2⟩:=ih ds hm
     refine ⟨by simp [h1],fun j d k hd hk=>?_⟩
     cases j with
     | zero=>simp at hd hk;subst hd;subst hk;exact hc
     | succ j=>exact h2 j d k (by simpa using hd) (by simpa using hk)
 obtain ⟨h1,h2⟩:=key _ _ h
 refine ⟨by simpa using h1,fun j c hc=>?_⟩
 have hj:j < n:=by have:=(List.getElem?_eq_some_iff.1 hc).1;simp at h1;omega
 exact h2 j c j hc (by simp [hj])
theorem cell_in {w:World} {a:Addr} {c:Value} (h:w.cell? a=some c):a.spot=none∧∃ cs ty fr,w.heap[a.block]?=some (.cells cs ty fr)∧cs[a.off]?=some c:=by
 unfold World.cell? at h
 split at h
 ·rename_i cs ty fr hg
  cases hs:a.spot with
  | none=>simp [hs] at h;exact ⟨rfl,cs,ty,fr,hg,h⟩
  | some q=>simp [hs] at h
 ·cases h
theorem add_add (a:Addr) (i j:Nat):(a.add i).add j=a.add (i+j):=by
 unfold Addr.add
 by_cases hi:i=0
 ·simp [hi]
 ·by_cases hj:j=0<;>simp [hi,hj]<;>omega
theorem add_block (a:Addr) (i:Nat):(a.add i).block=a.block:=by unfold Addr.add;split<;>rfl
theorem add_off (a:Addr) (i:Nat):(a.add i).off=a.off+i:=by unfold Addr.add;split<;>simp_all
theorem cellsOf_of {P:Program} {T:TypeId} {k:TK} {sz by_:Nat} (hT:TI P T k sz by_):P.cellsOf T=sz:=by
 obtain ⟨i,hi,hs,_⟩:=hT.infoo
 simp [Program.cellsOf,hi,hs]
theorem reads_slice {P:Program} {T e:TypeId} {sz by_:Nat} (hT:TI P T (.slice e) sz by_) {ke:TK} {es be:Nat} (hE:TI P e ke es be) (h0:0 < es) {α:Type} {row:α→List PVal} {ok:α→Prop} (he:Reads P e α row ok) :
  Reads P T (List α) (fun l=>[.sl es (l.map row) false]) (fun l=>l.length≤maxLen∧∀ a∈l,ok a):=by
 intro H enc w fuel cs x h
 obtain ⟨d,hd,hk⟩:=hT.undd
 cases d<;>simp [TK.of] at hk
 subst hk
 rename_i e
 have hc:=cellsOf_of hE
 cases fuel with
 | zero=>simp [DataW.trod] at h
 | succ f=>
  simp only [DataW.trod,hd] at h
  split at h<;>try (first|(simp_all;done)|(exfalso;simp_all;done))
  ·rename_i e' he'
   simp only [Option.some.injEq,TypeDesc.slice.injEq] at he'
   refine ⟨[],by simp,.cons ⟨none,0,rfl,Nat.le_refl _,by simp [maxLen],by simp,rfl,rfl⟩ .nil⟩
  ·rename_i e' a len cap he'
   simp only [Option.some.injEq,TypeDesc.slice.injEq] at he'
   subst he'
   split at h
   ·rename_i hb
    cases hm:(List.range len).mapM (fun i=>(w.cells? 0 (a.add (i * P.cellsOf e)) (P.cellsOf e)).bind (DataW.trod enc P w 0 (fun _=>true) true f e)) with
    | none=>simp [hm] at h
    | some elems=>
     rw [hc] at hm
     obtain ⟨l,h1,h2,h3⟩:=reads_many he (es:=es) (cellsAt:=fun i=>w.cells? 0 (a.add (i * es)) es) (fun i cs hcs=>(cells_row hcs).1) _ _ hm
     simp only [List.length_range] at h1
     have hread:∀ (i:Nat) row',(l.map row)[i]?=some row'→row'.length=es∧∀ (j:Nat) p,row'[j]?=some p→∃ c,w.cell? (a.add (i * es+j))=some c∧p.holds (whole w) c:=by
      intro i row' hr
      rw [List.getElem?_map] at hr
      cases hli:l[i]? with
      | none=>rw [hli] at hr;cases hr
      | some b=>
       rw [hli] at hr;simp at hr;subst hr
       have hil:i < len:=by rw [← h1];exact (List.getElem?_eq_some_iff.1 hli).1
       obtain ⟨k1,cs,k2,k3⟩:=h3 i b i hli (by simp [hil])
       obtain ⟨q1,q2⟩:=cells_row k2
       refine ⟨k1,fun j p hp=>?_⟩
       obtain ⟨c,hcj,hpc⟩:=k3.get hp
       exact ⟨c,by rw [← add_add];exact q2 j c hcj,hpc⟩
     refine ⟨l,⟨by omega,h2⟩,.cons ⟨some a,cap,by simp [h1],by simp [h1];omega,by omega,by simp,?_⟩ .nil⟩
     cases hl:l with
     | nil=>exact .inl rfl
     | cons b l'=>
      right
      have h00:=hread 0 (row b) (by simp [hl])
      have hrow0:∃ p,(row b)[0]?=some p:=⟨(row b)[0]'(by rw [h00.1];exact h0),by simp⟩
      obtain ⟨p0,hp0⟩:=hrow0
      obtain ⟨c0,hc0,_⟩:=h00.2 0 p0 hp0
      simp only [Nat.zero_mul,Nat.zero_add] at hc0
      have ha0:a.add 0=a:=by simp [Addr.add]
      rw [ha0] at hc0
      obtain ⟨hs,cs,ty,fr,hg,_⟩:=cell_in hc0
      have hblk:a.block < w.heap.size:=(Array.getElem?_eq_some_iff.1 hg).1
      refine ⟨hs,hblk,cs,ty,fr,hg,fun i row' hr=>?_⟩
      rw [← hl] at hr
      refine ⟨(hread i row' hr).1,fun j p hp=>?_⟩
      obtain ⟨c,hcc,hpc⟩:=(hread i row' hr).2 j p hp
      obtain ⟨_,cs',ty',fr',hg',hoff⟩:=cell_in hcc
      rw [add_block,hg] at hg'
      simp only [Option.some.injEq,Obj.cells.injEq] at hg'
      obtain ⟨rfl,_,_⟩:=hg'
      rw [add_off] at hoff
      exact ⟨c,by rw [← hoff];congr 1;omega,hpc⟩
   ·cases h
theorem All2.flat {α β:Type} {R:α→β→Prop} {es:Nat}:∀ (rows:List (List α)) (cs:List β),cs.length=rows.length * es→(∀ (i:Nat) r,rows[i]?=some r→r.length=es∧All2 R r ((cs.drop (i * es)).take es))→All2 R rows.flatten cs
 | [],cs,h,_=>by simp at h;subst h;exact .nil
 | r::rows,cs,h,hr=>by
  have h0:=hr 0 r rfl
  simp only [Nat.zero_mul,List.drop_zero] at h0
  have e:cs=cs.take es++cs.drop es:=(List.take_append_drop es cs).symm
  rw [e,List.flatten_cons]
  refine h0.2.append (All2.flat (es:=es) rows _ ?_ fun i r' hr'=>?_)
  ·simp only [List.length_cons,Nat.add_mul,Nat.one_mul,List.length_drop] at *;omega
  ·have:=hr (i+1) r' (by simpa using hr')
   rw [List.drop_drop]
   have e2:es+i * es=(i+1) * es:=by rw [Nat.add_mul];omega
   rw [e2];exact this
theorem mapM_congr' {α β:Type} {f g:α→Option β}:∀ {l:List α},(∀ x∈l,f x=g x)→l.mapM f=l.mapM g
 | [],_=>rfl
 | x::l,h=>by
  simp only [List.mapM_cons]
  rw [h x (by simp),mapM_congr' (l:=l) fun y hy=>h y (by simp [hy])]
theorem reads_array {P:Program} {T e:TypeId} {n sz by_:Nat} (hT:TI P T (.array n e) sz by_) {ke:TK} {es be:Nat} (hE:TI P e ke es be) (hs:sz=n * es) {α:Type} {row:α→List PVal} {ok:α→Prop} (he:Reads P e α row ok) :
  Reads P T (List α) (fun l=>(l.map row).flatten) (fun l=>l.length=n∧∀ a∈l,ok a):=by
 intro H enc w fuel cs x h
 obtain ⟨d,hd,hk⟩:=hT.undd
 cases d<;>simp [TK.of] at hk
 obtain ⟨rfl,rfl⟩:=hk
 rename_i n e
 have hc:=cellsOf_of hE
 have hc':=cellsOf_of hT
 cases fuel with
 | zero=>simp [DataW.trod] at h
 | succ f=>
  simp only [DataW.trod,hd] at h
  split at h
  ·rename_i hlen
   rw [hc'] at hlen
   rw [hc] at h
   cases hm:(List.range n).mapM (fun i=>DataW.trod enc P w 0 (fun _=>true) true f e ((cs.drop (i * es)).take es)) with
   | none=>simp [hm] at h
   | some xs=>
    obtain ⟨l,h1,h2,h3⟩:=reads_many he (es:=es) (cellsAt:=fun i=>if i < n then some ((cs.drop (i * es)).take es) else none) (w:=w) (enc:=enc) (fuel:=f) (fun i c hc=>by
     split at hc
     ·rename_i hi
      simp only [Option.some.injEq] at hc;subst hc
      have:(i+1) * es≤n * es:=Nat.mul_le_mul_right es hi
      simp only [List.length_take,List.length_drop,Nat.add_mul,Nat.one_mul] at *;omega
     ·cases hc) (List.range n) xs (by
      rw [← hm]
      exact mapM_congr' fun i hi=>by simp only [List.mem_range] at hi;simp [hi])
    simp only [List.length_range] at h1
    refine ⟨l,⟨h1,h2⟩,All2.flat (es:=es) _ _ (by simp [h1,hlen,hs]) fun i r hr=>?_⟩
    rw [List.getElem?_map] at hr
    cases hli:l[i]? with
    | none=>rw [hli] at hr;cases hr
    | some b=>
     rw [hli] at hr;simp at hr;subst hr
     have hil:i < n:=by rw [← h1];exact (List.getElem?_eq_some_iff.1 hli).1
     obtain ⟨k1,c,k2,k3⟩:=h3 i b i hli (by simp [hil])
     simp only [hil,if_true,Option.some.injEq] at k2
     subst k2
     exact ⟨k1,k3⟩
  ·cases h
def ReadsFs (P:Program) (sz off:Nat) (fs:List (Nat × TypeId)) (α:Type) (row:α→List PVal) (ok:α→Prop):Prop:=
 ∀ (H:Type) (enc:TypeId × Value→H) (w:World) (fuel:Nat) (cs:List Value) (xs:List (DataW H × List MemPlace)),cs.length=sz→
  fs.mapM (fun f=>DataW.trod enc P w 0 (fun _=>true) true fuel f.2 ((cs.drop f.1).take (P.cellsOf f.2)))=some xs→∃ a,ok a∧All2 (fun p c=>p.holds (whole w) c) (row a) (cs.drop off)
theorem readsFs_nil {P:Program} {sz off:Nat} (h:off=sz):ReadsFs P sz off [] Unit (fun _=>[]) (fun _=>True):=fun H enc w fuel cs xs hl hx=>
 ⟨(),trivial,by rw [List.drop_of_length_le (by omega)];exact .nil⟩
theorem readsFs_cons {P:Program} {sz off T:Nat} {k:TK} {sf bf:Nat} (hT:TI P T k sf bf) {fs:List (Nat × TypeId)} {α β:Type} {row:α→List PVal} {ok:α→Prop} {row':β→List PVal} {ok':β→Prop} (h:Reads P T α row ok) (h':ReadsFs P sz (off+sf) fs β row' ok') :
  ReadsFs P sz off ((off,T)::fs) (α × β) (fun x=>row x.1++row' x.2) (fun x=>ok x.1∧ok' x.2):=by
 intro H enc w fuel cs xs hl hx
 simp only [List.mapM_cons,cellsOf_of hT] at hx
 cases h1:DataW.trod enc P w 0 (fun _=>true) true fuel T ((cs.drop off).take sf) with
 | none=>simp [h1] at hx
 | some x=>
  cases h2:fs.mapM (fun f=>DataW.trod enc P w 0 (fun _=>true) true fuel f.2 ((cs.drop f.1).take (P.cellsOf f.2))) with
  | none=>simp [h1,h2] at hx
  | some ys=>
   obtain ⟨a,ha,hra⟩:=h H enc w fuel _ _ h1
   obtain ⟨b,hb,hrb⟩:=h' H enc w fuel cs ys hl h2
   refine ⟨(a,b),⟨ha,hb⟩,?_⟩
   have e:cs.drop off=(cs.drop off).take sf++cs.drop (off+sf):=by rw [← List.drop_drop];exact (List.take_append_drop _ _).symm
   rw [e];exact hra.append hrb
theorem reads_struct {P:Program} {T:TypeId} {fs:List (Nat × TypeId)} {sz by_:Nat} (hT:TI P T (.struct fs) sz by_) {α:Type} {row:α→List PVal} {ok:α→Prop} (h:ReadsFs P sz 0 fs α row ok):Reads P T α row ok:=by
 intro H enc w fuel cs x hx
 obtain ⟨d,hd,hk⟩:=hT.undd
 cases d<;>simp [TK.of] at hk
 subst hk
 rename_i fs
 cases fuel with
 | zero=>simp [DataW.trod] at hx
 | succ f=>
  simp only [DataW.trod,hd] at hx
  split at hx
  ·rename_i hlen
   rw [cellsOf_of hT] at hlen
   cases hm:fs.toList.mapM (fun f_1=>DataW.trod enc P w 0 (fun _=>true) true f f_1.type ((cs.drop f_1.offset).take (P.cellsOf f_1.type))) with
   | none=>simp [hm] at hx
   | some xs=>
    have:=h H enc w f cs xs hlen (by rw [← hm,List.mapM_map];rfl)
    simpa using this
  ·cases hx
/-! ### An argument -/
def argAV (agg:Bool) (row:List PVal):AV:=match agg,row with
 | true,row=>.a (row.map .p)
 | false,[p]=>.p p
 | false,_=>.un
theorem arg_holds {P:Program} {T:TypeId} {k:TK} {sz by_:Nat} (hT:TI P T k sz by_) {α:Type} {row:α→List PVal} {ok:α→Prop} (hR:Reads P T α row ok) {w:World} {base:Nat} {v:Value} {H:Type} {enc:TypeId × Value→H} {d:DataW H} {ps:List MemPlace}
  (hok:Value.okWide P w .any base T v) (h:DataW.Trod enc P w 0 (fun _=>true) true T v d ps):∃ a,ok a∧(argAV k.agg (row a)).holds Mu.none (whole w) v:=by
 obtain ⟨fuel,h⟩:=h
 obtain ⟨a,ha,hr⟩:=hR H enc w fuel _ _ h
 refine ⟨a,ha,?_⟩
 obtain ⟨d',hd,hk⟩:=hT.undd
 cases hag:k.agg with
 | true=>
  have hv:∃ cs,v=.agg cs:=by
   unfold Value.okWide at hok
   subst hk
   cases d'<;>simp [TK.of,TK.agg] at hag
   all_goals (rw [hd] at hok;obtain ⟨cs,h1,_⟩:=hok;exact ⟨cs,h1⟩)
  obtain ⟨cs,rfl⟩:=hv
  refine ⟨cs.toList,by simp,?_⟩
  have:(Value.agg cs).cells.toList=cs.toList:=by simp [Value.cells]
  rw [this] at hr
  exact ⟨by simpa using hr.1,fun i c x hc hx=>by
   rw [List.getElem?_map] at hc
   cases hp:(row a)[i]? with
   | none=>rw [hp] at hc;cases hc
   | some p=>rw [hp] at hc;simp at hc;subst hc;exact hr.2 i p x hp hx⟩
 | false=>
  by_cases hv:∃ cs,v=.agg cs
  ·obtain ⟨cs,rfl⟩:=hv
   exfalso
   unfold Value.okWide at hok
   subst hk
   cases d'<;>simp [TK.of,TK.agg] at hag<;>(rw [hd] at hok;simp [Cell.okWide,hd,Cell.ok] at hok)
  ·have hc:v.cells.toList=[v]:=by cases v<;>first|(exfalso;exact hv ⟨_,rfl⟩)|simp [Value.cells]
   rw [hc] at hr
   cases hrow:row a with
   | nil=>rw [hrow] at hr;have:=hr.1;simp at this
   | cons p l=>
    rw [hrow] at hr
    obtain ⟨c,m,e1,h1,h2⟩:=hr.cons_inv
    simp at e1
    obtain ⟨rfl,rfl⟩:=e1
    cases l with
    | nil=>exact h1
    | cons q l=>have:=h2.1;simp at this
theorem trodAll_again {H:Type} {enc:TypeId × Value→H} {P:Program} (hl:laidOutB P=true) {W W':World} (hb:Below W.heap.size W W'):∀ {ts:List TypeId} {vs:List Value} {ds:List (DataW H)} {ps:List MemPlace},
  ts.all (fun t=>P.readableRec t&&decide (t < P.types.size))=true→DataW.TrodAll enc P W 0 (fun _=>true) true ts vs ds ps→DataW.TrodAll enc P W' 0 (fun b=>decide (b < W.heap.size)) true ts vs ds ps
 | [],[],[],_,_,h=>h
 | t::ts,v::vs,d::ds,_,ht,⟨p,q,h1,h2,h3⟩=>by
  simp only [List.all_cons,Bool.and_eq_true,decide_eq_true_eq] at ht
  refine ⟨p,q,Below.trod hl ht.1.1 ht.1.2 h1 hb ?_,trodAll_again hl hb (by simpa using ht.2) h2,h3⟩
  obtain ⟨m,hm⟩:=h1
  exact DataW.trod_lt m _ _ _ hm
 | [],_::_,_,_,_,h=>h.elim
 | [],[],_::_,_,_,h=>h.elim
 | _::_,[],_,_,_,h=>h.elim
 | _::_,_::_,[],_,_,h=>h.elim
theorem law_calls {P:Program} {f:FuncId} {args:List AV} (h:PCall P f args (.p (.b true))) {W:World} {vs:List Value} (ha:All2 (AV.holds Mu.none (whole W)) args vs) :
  Calls P f vs.toArray W fun e W'=>e=.returned (.bool true)∧Below W.heap.size W W':=by
 refine (h W (fun b=>b < W.heap.size) vs (fun b hb=>hb) ha).mono ?_
 rintro e W' ⟨v,rfl,⟨S',_,_,hr⟩,hb,_⟩
 obtain ⟨rfl,_⟩:=hr
 exact ⟨rfl,hb⟩
end Go.Aw
/- THE ABSTRACT WALK, part 25: bytes of a constant string; how arguments read, under a condition. Nothing here speaks of a program. -/
namespace Go.Aw
open Go Go.RowKit
set_option linter.unusedVariables false
set_option linter.unusedSimpArgs false
theorem Reads.imp' {P:Program} {T:TypeId} {α β:Type} {row:α→List PVal} {ok:α→Prop} (h:Reads P T α row ok) {row':β→List PVal} {ok':β→Prop} (f:α→β) (h1:∀ a,ok a→row' (f a)=row a) (h2:∀ a,ok a→ok' (f a)):Reads P T β row' ok':=
 fun H enc w fuel cs x hx=>by
  obtain ⟨a,ha,hh⟩:=h H enc w fuel cs x hx
  exact ⟨f a,h2 a ha,by rw [h1 a ha];exact hh⟩
end Go.Aw
