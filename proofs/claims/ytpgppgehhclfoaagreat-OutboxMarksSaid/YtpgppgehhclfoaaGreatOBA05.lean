/- The layer's texts CoreV, CoreW, CoreX, CoreN, CoreY, one behind the other. -/
import Derived.Test.YtpgppgehhclfoaaGreatOBA04
import Derived.Laws.BytesArg
import Derived.Laws.IdiomStrings
import Derived.Laws.Strings
import Derived.Laws.StructEq
import Derived.ControlIn
import Derived.AtR
import Derived.Test.YtpgppgehhclfoaaGreatOBA03
import Derived.ProofKit
import Derived.OpenShut
import Derived.ChangeOld
import Derived.Below
import Derived.Carry
import Derived.Lib.SlBytesConst
/- THE ABSTRACT WALK, part 22: parts of arrays; slices of arrays; strings and bytes; a slice written out that grows. Nothing here speaks of a program. -/
namespace Go.Aw
open Go Go.RowKit
set_option linter.unusedVariables false
set_option linter.unusedSimpArgs false
/-! ### Rows of a flat list -/
def rowOf {α:Type} (es:Nat) (l:List α) (i:Nat):List α:=(l.drop (i * es)).take es
def setRow {α:Type} (es:Nat) (l:List α) (i:Nat) (r:List α):List α:=l.take (i * es)++r++l.drop (i * es+es)
section rows
variable {α:Type} {es n i j:Nat} {l m r r':List α}
theorem rowOf_len (h:i * es+es≤l.length):(rowOf es l i).length=es:=by simp [rowOf];omega
end rows
section ops
variable {C:Ctx} {o:Oper} {σ:St} {α:Type}
theorem lop_ix_asl {T e:TypeId} {x ix:Operand} {sz by_:Nat} {ke:TK} {sze be:Nat} {ob g off len cap:Nat} {k:IntKind} {i:Int}
  (ho:o.op=.indexAddr T x ix) (hT:TI C.P T (.slice e) sz by_) (he:TI C.P e ke sze be) (hx:σ.look x=.o (.asl ob g off len cap)) (hi:σ.look ix=.p (.v (.int k i))) (h0:0≤i) (hb:i < len) (hd:dOk C o.dst=true) :
  LOp C o σ ⟨.o (.ptr ob g (off+i.toNat * sze)),[]⟩ (fun _=>false):=
 lop_val hd fun τ a w G hl hm h=>by
  obtain ⟨b,c,h1,h2⟩:=look_of h ((hl x (by simp [ho,Op.operands])).trans hx)
  have e2:=val_of h ((hl ix (by simp [ho,Op.operands])).trans hi)
  obtain ⟨d,hdd,hk⟩:=hT.undd
  have:d=.slice e:=by cases d<;>simp [TK.of] at hk;rw [hk]
  subst this
  refine ⟨.pointer (some ⟨b,off+i.toNat * sze,none⟩),?_,b,c,h1,rfl⟩
  have hb':0≤i∧i < (len:Int):=⟨h0,hb⟩
  simp [execOp,ho,h2,e2,Instr.indexAt,asIntOf,run_underlying hdd,hb',he.run_sizeOf,add_addr]
theorem lop_sl_arr {T e:TypeId} {x:Operand} {n sz by_:Nat} {ke:TK} {sze be:Nat} {ob g off:Nat} (ho:o.op=.slice T x none none none) (hT:TI C.P T (.array n e) sz by_) (he:TI C.P e ke sze be) (hx:σ.look x=.o (.ptr ob g off)) (hd:dOk C o.dst=true) :
  LOp C o σ ⟨.o (.asl ob g off n n),[]⟩ (fun _=>false):=
 lop_val hd fun τ a w G hl hm h=>by
  obtain ⟨b,c,h1,h2⟩:=look_of h ((hl x (by simp [ho,Op.operands])).trans hx)
  obtain ⟨d,hdd,hk⟩:=hT.undd
  have:d=.array n e:=by cases d<;>simp [TK.of] at hk;rw [hk.1,hk.2]
  subst this
  refine ⟨.slice (some ⟨b,off,none⟩) n n,?_,b,c,h1,rfl⟩
  simp [execOp,ho,h2,Instr.sliceAt,Instr.sureAddr,run_underlying hdd,Instr.sliceBounds,he.run_sizeOf,Addr.add]
theorem lop_ld_part {f:α→AC} {l:List α} {T:TypeId} {x:Operand} {k:TK} {sz by_:Nat} {ob g n off:Nat} {ty:TypeId} (ho:o.op=.load T x) (hT:TI C.P T k sz by_) (hx:σ.look x=.o (.ptr ob g off)) (hm:σ.mem ob=(n,some (.box ty (l.map f)))) (hn:n=g+1)
  (hk:k.agg=true) (hl:off+sz≤l.length) (hd:dOk C o.dst=true):LOp C o σ ⟨.a (((l.drop off).take sz).map f),[]⟩ (fun y=>y == ob):=by
 have:=lop_load_box (o:=o) (hT:=hT) ho hx hm hn hk (by simpa using hl) hd
 rwa [← List.map_drop,← List.map_take] at this
theorem lop_st_part {f:α→AC} {l r:List α} {T:TypeId} {x y:Operand} {k:TK} {sz by_:Nat} {ob g n off:Nat} {ty:TypeId} (ho:o.op=.store T x y) (hT:TI C.P T k sz by_) (hdst:o.dst=none) (hx:σ.look x=.o (.ptr ob g off)) (hy:σ.look y=.a (r.map f)) (hm:σ.mem ob=(n,some (.box ty (l.map f)))) (hn:n=g+1)
  (hl:off+sz≤l.length) (hs:r.length=sz):LOp C o σ ⟨.un,[(ob,(n,some (.box ty ((l.take off++r++l.drop (off+sz)).map f))))]⟩ (fun z=>z == ob):=by
 have:=lop_store (o:=o) (hT:=hT) (s:=.agg (r.map f)) ho hdst hx hy hm hn (by simpa using hl) (by simpa [SV.cells] using hs)
 simp only [SV.cells] at this
 rwa [← List.map_take,← List.map_drop,← List.map_append,← List.map_append] at this
theorem lop_ix_part {f:α→AC} {l:List α} {T e:TypeId} {x ix:Operand} {n:Nat} {sz by_:Nat} {ke:TK} {sze be:Nat} {k:IntKind} {i:Int}
  (ho:o.op=.index T x ix) (hT:TI C.P T (.array n e) sz by_) (he:TI C.P e ke sze be) (hx:σ.look x=.a (l.map f)) (hi:σ.look ix=.p (.v (.int k i))) (h0:0≤i) (hb:i < n) (hk:ke.agg=true) (hl:i.toNat * sze+sze≤l.length) (hd:dOk C o.dst=true) :
  LOp C o σ ⟨.a (((l.drop (i.toNat * sze)).take sze).map f),[]⟩ (fun _=>false):=by
 have:=lop_index_arr (o:=o) (hT:=hT) (he:=he) ho hx hi ⟨h0,hb⟩ hk (by simpa using hl) hd
 rwa [← List.map_drop,← List.map_take] at this
theorem lop_ld_rw {f:α→AC} {l:List α} {T:TypeId} {x:Operand} {k:TK} {sz by_:Nat} {ob g n i:Nat} {ty:TypeId} (ho:o.op=.load T x) (hT:TI C.P T k sz by_) (hx:σ.look x=.o (.ptr ob g (0+i * sz))) (hm:σ.mem ob=(n,some (.box ty (l.map f)))) (hn:n=g+1)
  (hk:k.agg=true) (hl:i * sz+sz≤l.length) (hd:dOk C o.dst=true):LOp C o σ ⟨.a ((rowOf sz l i).map f),[]⟩ (fun y=>y == ob):=by
 have:=lop_ld_part ho hT hx hm hn hk (by omega) hd
 rwa [Nat.zero_add] at this
theorem lop_st_rw {f:α→AC} {l r:List α} {T:TypeId} {x y:Operand} {k:TK} {sz by_:Nat} {ob g n i:Nat} {ty:TypeId} (ho:o.op=.store T x y) (hT:TI C.P T k sz by_) (hdst:o.dst=none) (hx:σ.look x=.o (.ptr ob g (0+i * sz))) (hm:σ.mem ob=(n,some (.box ty (l.map f)))) (hy:σ.look y=.a (r.map f)) (hn:n=g+1)
  (hl:i * sz+sz≤l.length) (hs:r.length=sz):LOp C o σ ⟨.un,[(ob,(n,some (.box ty ((setRow sz l i r).map f))))]⟩ (fun z=>z == ob):=by
 have:=lop_st_part ho hT hdst hx hy hm hn (by omega) hs
 rwa [Nat.zero_add] at this
theorem lop_ix_rw {f:α→AC} {l:List α} {T e:TypeId} {x ix:Operand} {n:Nat} {sz by_:Nat} {ke:TK} {sze be:Nat} {k:IntKind} {i:Int}
  (ho:o.op=.index T x ix) (hT:TI C.P T (.array n e) sz by_) (he:TI C.P e ke sze be) (hx:σ.look x=.a (l.map f)) (hi:σ.look ix=.p (.v (.int k i))) (h0:0≤i) (hb:i < n) (hk:ke.agg=true) (hl:i.toNat * sze+sze≤l.length) (hd:dOk C o.dst=true) :
  LOp C o σ ⟨.a ((rowOf sze l i.toNat).map f),[]⟩ (fun _=>false):=lop_ix_part ho hT he hx hi h0 hb hk hl hd
theorem lop_ld_row {f:α→PVal} {l:List α} {T:TypeId} {x:Operand} {k:TK} {sz by_:Nat} (ho:o.op=.load T x) (hT:TI C.P T k sz by_) (hx:σ.look x=.p (.at_ (l.map f))) (hk:k.agg=true) (hz:0 < sz) (hl:l.length=sz) (hd:dOk C o.dst=true) :
  LOp C o σ ⟨.a (l.map fun n=>.p (f n)),[]⟩ (fun _=>false):=by
 have:=lop_load_at (o:=o) (hT:=hT) ho hx hk hz (by simp [hl]) hd
 rw [List.take_of_length_le (by simp [hl]),List.map_map] at this
 exact this
theorem vEqB_k {k:IntKind}:∀ (l m:List Nat),vEqB (l.map fun n:Nat=>Value.int k n) (m.map fun n:Nat=>Value.int k n)=decide (l=m)
 | [],[]=>by simp [vEqB]
 | [],_::_=>by simp [vEqB]
 | _::_,[]=>by simp [vEqB]
 | a::l,b::m=>by
  simp only [List.map_cons,vEqB,vEqB_k l m,vEq]
  by_cases h1:a=b<;>by_cases h2:l=m<;>simp [h1,h2]<;>omega
theorem hasL_k {k:IntKind} {n:Nat}:∀ {l:List Nat},l.length=n→HasL (List.replicate n (.int k)) (l.map fun n:Nat=>Value.int k n):=by
 induction n with
 | zero=>intro l h;obtain rfl:=List.eq_nil_of_length_eq_zero h;exact .nil
 | succ n ih=>
  intro l h
  cases l with
  | nil=>simp at h
  | cons a l=>rw [List.replicate_succ];exact .cons (by simp [LK.has]) (ih (by simpa using h))
section
variable {t t':TypeId} {x y:Operand} {k:IntKind} {n:Nat} {l m:List Nat}
theorem lop_eq_k (ho:o.op=.binOp .eql t x y t') (hT:EqT C.P t (List.replicate n (.int k))) (hx:σ.look x=.a (l.map fun n:Nat=>.p (.v (.int k n)))) (hy:σ.look y=.a (m.map fun n:Nat=>.p (.v (.int k n)))) (h1:l.length=n) (h2:m.length=n)
  (hagg:∃ k sz by_,TI C.P t k sz by_∧k.agg=true) (hd:dOk C o.dst=true):LOp C o σ ⟨.p (.v (.bool (decide (l=m)))),[]⟩ (fun _=>false):=by
 have:=lop_eqla ho hT hx hy .map .map (hasL_k h1) (hasL_k h2) hagg hd
 rwa [vEqB_k] at this
theorem lop_ne_k (ho:o.op=.binOp .neq t x y t') (hT:EqT C.P t (List.replicate n (.int k))) (hx:σ.look x=.a (l.map fun n:Nat=>.p (.v (.int k n)))) (hy:σ.look y=.a (m.map fun n:Nat=>.p (.v (.int k n)))) (h1:l.length=n) (h2:m.length=n)
  (hagg:∃ k sz by_,TI C.P t k sz by_∧k.agg=true) (hd:dOk C o.dst=true):LOp C o σ ⟨.p (.v (.bool (!decide (l=m)))),[]⟩ (fun _=>false):=by
 have:=lop_neqa ho hT hx hy .map .map (hasL_k h1) (hasL_k h2) hagg hd
 rwa [vEqB_k] at this
end
/-! ### Strings and bytes -/
def strOf (b:List Nat):ByteArray:=⟨(b.map UInt8.ofNat).toArray⟩
def okB (b:List Nat):Prop:=∀ n∈b,n < 256
theorem okB.nil:okB []:=fun n h=>by simp at h
theorem okB.cons {a:Nat} {b:List Nat} (ha:a < 256) (h:okB b):okB (a::b):=fun n hn=>by
 rcases List.mem_cons.1 hn with rfl|hn
 ·exact ha
 ·exact h n hn
theorem okB.append {a b:List Nat} (ha:okB a) (h:okB b):okB (a++b):=fun n hn=>by
 rcases List.mem_append.1 hn with hn|hn
 ·exact ha n hn
 ·exact h n hn
theorem strOf_size (b:List Nat):(strOf b).size=b.length:=by simp [strOf,ByteArray.size]
theorem strOf_inj {a b:List Nat} (ha:okB a) (hb:okB b) (h:strOf a=strOf b):a=b:=by
 have h1:a.map UInt8.ofNat=b.map UInt8.ofNat:=by
  have:=congrArg (fun s:ByteArray=>s.data.toList) h
  simpa [strOf] using this
 have key:∀ {l:List Nat},okB l→(l.map UInt8.ofNat).map UInt8.toNat=l:=fun {l} hl=>by
  rw [List.map_map]
  conv=>rhs;rw [← List.map_id l]
  refine List.map_congr_left fun n hn=>?_
  have:=hl n hn
  simp [Nat.mod_eq_of_lt this]
 have h2:=congrArg (List.map UInt8.toNat) h1
 rwa [key ha,key hb] at h2
def bytesOf (s:ByteArray):List Nat:=s.data.toList.map UInt8.toNat
theorem strOf_bytesOf (s:ByteArray):strOf (bytesOf s)=s:=by
 unfold strOf bytesOf
 cases s with
 | mk d=>
  have:(d.toList.map UInt8.toNat).map UInt8.ofNat=d.toList:=by
   rw [List.map_map]
   conv=>rhs;rw [← List.map_id d.toList]
   exact List.map_congr_left fun c _=>by simp
  simp only [this]
theorem bytesOf_ok (s:ByteArray):okB (bytesOf s):=fun n hn=>by
 unfold bytesOf at hn
 obtain ⟨c,_,rfl⟩:=List.mem_map.1 hn
 exact c.toNat_lt
theorem lop_eqls {t t':TypeId} {x y:Operand} {sz by_:Nat} {s u:ByteArray} (ho:o.op=.binOp .eql t x y t') (hT:TI C.P t .string sz by_) (hx:σ.look x=.p (.v (.string s))) (hy:σ.look y=.p (.v (.string u))) (hd:dOk C o.dst=true):LOp C o σ ⟨.p (.v (.bool (s.data.toList == u.data.toList))),[]⟩ (fun _=>false):=
 lop_bin ho hx hy (fun w=>by
  obtain ⟨d,hdd,hk⟩:=hT.undd
  have:d=.string:=by cases d<;>simp [TK.of] at hk;rfl
  subst this
  have e:(eqGuard .eql t x y (.string s) (.string u)).run C.P w=.ok () w:=by unfold eqGuard;simp [pure]
  simp only [Sem.run_bind,e,Result.andThen_ok,binOp_string_eql,ByteArray.toList_eq,Sem.run_pure]) rfl hd
theorem lop_neqs {t t':TypeId} {x y:Operand} {sz by_:Nat} {s u:ByteArray} (ho:o.op=.binOp .neq t x y t') (hT:TI C.P t .string sz by_) (hx:σ.look x=.p (.v (.string s))) (hy:σ.look y=.p (.v (.string u))) (hd:dOk C o.dst=true):LOp C o σ ⟨.p (.v (.bool (!(s.data.toList == u.data.toList)))),[]⟩ (fun _=>false):=
 lop_bin ho hx hy (fun w=>by
  obtain ⟨d,hdd,hk⟩:=hT.undd
  have:d=.string:=by cases d<;>simp [TK.of] at hk;rfl
  subst this
  have e:(eqGuard .neq t x y (.string s) (.string u)).run C.P w=.ok () w:=by unfold eqGuard;simp [pure]
  simp only [Sem.run_bind,e,Result.andThen_ok,binOp_string_neq,ByteArray.toList_eq,Sem.run_pure]) rfl hd
theorem eq_str {a b:List Nat} (ha:okB a) (hb:okB b):((strOf a).data.toList == (strOf b).data.toList)=decide (a=b):=by
 by_cases h:a=b
 ·subst h;simp
 ·rw [decide_eq_false h,Bool.eq_false_iff]
  intro hc
  refine h (strOf_inj ha hb ?_)
  have h1:(strOf a).data.toList=(strOf b).data.toList:=by simpa using hc
  have h2:(strOf a).data=(strOf b).data:=Array.toList_inj.1 h1
  cases hs:strOf a;cases ht:strOf b
  rw [hs,ht] at h2;simp only at h2;rw [h2]
theorem lop_eqs {t t':TypeId} {x y:Operand} {sz by_:Nat} {a b:List Nat} (ho:o.op=.binOp .eql t x y t') (hT:TI C.P t .string sz by_) (hx:σ.look x=.p (.v (.string (strOf a)))) (hy:σ.look y=.p (.v (.string (strOf b)))) (ha:okB a) (hb:okB b) (hd:dOk C o.dst=true) :
  LOp C o σ ⟨.p (.v (.bool (decide (a=b)))),[]⟩ (fun _=>false):=by
 have:=lop_eqls ho hT hx hy hd;rwa [eq_str ha hb] at this
theorem lop_nes {t t':TypeId} {x y:Operand} {sz by_:Nat} {a b:List Nat} (ho:o.op=.binOp .neq t x y t') (hT:TI C.P t .string sz by_) (hx:σ.look x=.p (.v (.string (strOf a)))) (hy:σ.look y=.p (.v (.string (strOf b)))) (ha:okB a) (hb:okB b) (hd:dOk C o.dst=true) :
  LOp C o σ ⟨.p (.v (.bool (!decide (a=b)))),[]⟩ (fun _=>false):=by
 have:=lop_neqs ho hT hx hy hd;rwa [eq_str ha hb] at this
theorem lop_cv_bs {s d e:TypeId} {x:Operand} {sz by_ sz' by' sze be:Nat} {b:List Nat} {ex:Bool} (ho:o.op=.convert s d x) (hS:TI C.P s (.slice e) sz by_) (hE:TI C.P e (.int .u8) sze be) (hD:TI C.P d .string sz' by') (hx:σ.look x=.p (.sl 1 (b.map fun n:Nat=>[PVal.v (.int .u8 n)]) ex)) (hd:dOk C o.dst=true) :
  LOp C o σ ⟨.p (.v (.string (strOf b))),[]⟩ (fun _=>false):=
 lop_val hd fun τ a w G hl hm h=>by
  obtain ⟨base,cap,h1,h2,h3,h4,h5⟩:=look_of h ((hl x (by simp [ho,Op.operands])).trans hx)
  simp only [List.length_map] at h1
  obtain ⟨ds,hds,hks⟩:=hS.undd
  have:ds=.slice e:=by cases ds<;>simp [TK.of] at hks;rw [hks]
  subst this
  obtain ⟨de,hde,hke⟩:=hE.undd
  have:de=.int .u8:=by cases de<;>simp [TK.of] at hke;rw [hke]
  subst this
  obtain ⟨dd,hdd,hkd⟩:=hD.undd
  have:dd=.string:=by cases dd<;>simp [TK.of] at hkd;rfl
  subst this
  have hstr:strOfNums (b.map fun n:Nat=>(n:Int))=strOf b:=by
   unfold strOfNums strOf
   rw [List.map_map];rfl
  have hnil:b=[]→(convert s d (.slice base b.length cap)).run C.P w=.ok (.string (strOf b)) w:=fun hb=>by
   subst hb
   cases base with
   | none=>exact run_convert_bytes_nil w s e hds hde _ _ d hdd
   | some ad=>
    have:=run_convert_bytes_back (P:=C.P) w s d e ad cap [] hds hde hdd (by simp)
    exact this
  refine ⟨.string (strOf b),?_,rfl,rfl⟩
  have key:(convert s d (.slice base b.length cap)).run C.P w=.ok (.string (strOf b)) w:=by
   cases base with
   | none=>
    obtain ⟨k1,k2⟩:=h5
    exact hnil (by simpa using k1)
   | some ad=>
    rcases h5 with h5 | ⟨g1,g2,cs,ty,fr,g3,g4⟩
    ·exact hnil (by simpa using h5)
    obtain ⟨bk,off,sp⟩:=ad
    simp only at g1;subst g1
    rw [← hstr]
    refine run_convert_bytes_arg w s e hds hde bk off b.length cap (b.map fun n:Nat=>(n:Int)) (by simp) (fun i hi=>?_) d hdd
    have hr:(b.map fun n:Nat=>[PVal.v (.int .u8 n)])[i]?=some [PVal.v (.int .u8 (b[i]:Nat))]:=by simp [hi]
    obtain ⟨_,k2⟩:=g4 i _ hr
    obtain ⟨c,hc,hcc⟩:=k2 0 _ rfl
    obtain ⟨rfl,_⟩:=hcc
    rw [cell_of_row w bk _ cs ty fr g3]
    simp only [Nat.mul_one,Nat.add_zero] at hc
    rw [hc]
    simp [List.getD_eq_getElem?_getD,hi]
  simp only [execOp,ho,h1,Sem.run_bind,key,Result.andThen_ok,Sem.run_pure]
theorem lop_cv_sb {s d e:TypeId} {x:Operand} {sz by_ sz' by' sze be:Nat} {b:List Nat} (ho:o.op=.convert s d x) (hS:TI C.P s .string sz by_) (hD:TI C.P d (.slice e) sz' by') (hE:TI C.P e (.int .u8) sze be) (hx:σ.look x=.p (.v (.string (strOf b)))) (hb:okB b) (hl63:b.length≤maxLen) (hd:dOk C o.dst=true) :
  LOp C o σ ⟨.p (.sl 1 (b.map fun n:Nat=>[PVal.v (.int .u8 n)]) false),[]⟩ (fun _=>false):=
 lop_grow hd fun τ a w G hl hm h=>by
  have h1:=val_of h ((hl x (by simp [ho,Op.operands])).trans hx)
  obtain ⟨ds,hds,hks⟩:=hS.undd
  have:ds=.string:=by cases ds<;>simp [TK.of] at hks;rfl
  subst this
  obtain ⟨de,hde,hke⟩:=hE.undd
  have:de=.int .u8:=by cases de<;>simp [TK.of] at hke;rw [hke]
  subst this
  obtain ⟨dd,hdd,hkd⟩:=hD.undd
  have:dd=.slice e:=by cases dd<;>simp [TK.of] at hkd;rw [hkd]
  subst this
  have hrun:=run_bytes_of_string (P:=C.P) w s d e (strOf b) hds hdd hde
  rw [strOf_size] at hrun
  have hge:=grownCap_ge w b.length 0 e
  have hcm:=grownCap_le_maxLen w b.length 0 e hl63
  refine ⟨.slice (some ⟨w.heap.size,0,none⟩) b.length (grownCap w b.length 0 e),w.drew.alloc (.cells (bytesRow (strOf b) (grownCap w b.length 0 e)) e ((bytesRow (strOf b) (grownCap w b.length 0 e)).size,(bytesRow (strOf b) (grownCap w b.length 0 e)).size+1)),by simp only [execOp,ho,h1,Sem.run_bind,hrun,Result.andThen_ok,Sem.run_pure],⟨rfl,.same,rfl,by simp,fun k hk=>Below.heap_alloc w.drew _ k hk⟩,?_⟩
  refine ⟨some ⟨w.heap.size,0,none⟩,grownCap w b.length 0 e,by simp,by simpa using hge,hcm,by simp,.inr ⟨rfl,.inr ⟨Nat.le_refl _,by simp⟩,_,_,_,heap_alloc_new w.drew _,?_⟩⟩
  intro i row hrow
  rw [List.getElem?_map] at hrow
  cases hbi:b[i]? with
  | none=>rw [hbi] at hrow;cases hrow
  | some n=>
   rw [hbi] at hrow;simp at hrow;subst hrow
   have hi:i < b.length:=(List.getElem?_eq_some_iff.1 hbi).1
   have hn:=hb n (List.mem_of_getElem? hbi)
   refine ⟨rfl,fun j p hp=>?_⟩
   cases j with
   | succ j=>simp at hp
   | zero=>
    simp at hp;subst hp
    refine ⟨.int .u8 n,?_,rfl,rfl⟩
    simp only [Nat.zero_add,Nat.mul_one,Nat.add_zero,bytesRow]
    rw [Array.getElem?_append_left (by simp [strOf];exact hi)]
    simp [strOf,hbi,Nat.mod_eq_of_lt hn]
/-! ### Own slices -/
theorem lop_buildO {T e:TypeId} {n:Nat} {parts:Array (Nat × Operand)} {sz by_:Nat} [hT:TI C.P T (.slice e) sz by_] {ke:TK} {sze be:Nat} [he:TI C.P e ke sze be] {z:List Value} [hz:TZ C.P e z] {ps:List (Nat × List PVal)} {d n0:Nat} {mo0:Option MO} (ho:o.op=.buildSlice T n parts) (hdst:o.dst=some d) (hm0:σ.mem d=(n0,mo0))
  (hp:All2 (fun (x:Nat × Operand) (p:Nat × List PVal)=>x.1=p.1∧p.2.length=sze∧∃ s,σ.look x.2=.s s∧s.cells=p.2.map .p) parts.toList ps)
  (hi:ps.map (·.1)=List.range n) (hz0:0 < sze) (hsmall:n * sze≤2 ^ 24) (hd:dOk C o.dst=true):LOp C o σ ⟨.o (.osl d n0 sze 0 n),[(d,(n0+1,some (.buf e sze (rowsOf ps))))]⟩ (fun q=>q == d):=
 lop_gen (by simp) hd hm0 fun τ a w G hl hm' h=>by
  have hzz:=hz.zero
  have hglen:(G.μ d).length=n0:=by have:=h.gens d;rw [hm' d (by simp),hm0] at this;exact this
  cases hie:C.P.info? e with
  | none=>simp [hie] at hzz
  | some i=>
   simp only [hie,Option.bind_some] at hzz
   cases hz0':i.zero with
   | none=>simp [hz0'] at hzz
   | some zv=>
    obtain ⟨dd,hdd,hkk⟩:=hT.undd
    have:dd=.slice e:=by cases dd<;>simp [TK.of] at hkk;rw [hkk]
    subst this
    have hpl:ps.length=n:=by have:=congrArg List.length hi;simpa using this
    have hidx:∀ i p,ps[i]?=some p→p.1=0+i:=fun i p hpi=>by
     have:(ps.map (·.1))[i]?=some p.1:=by rw [List.getElem?_map,hpi];rfl
     rw [hi] at this
     have hlt:i < n:=by rw [← hpl];exact (List.getElem?_eq_some_iff.1 hpi).1
     simp [hlt] at this;omega
    have hph:All2 (fun (p:Nat × List PVal) (v:Nat × Value)=>p.1=v.1∧p.2.length=sze∧All2 (fun (q:PVal) u=>q.holds ⟨w,G.S⟩ u) p.2 v.2.cells.toList) ps (parts.toList.map fun (i,x)=>(i,a.eval x)):=by
     refine ⟨by simp [← hp.1],fun j p v hpj hv=>?_⟩
     rw [List.getElem?_map] at hv
     cases hx:parts.toList[j]? with
     | none=>rw [hx] at hv;cases hv
     | some x=>
      rw [hx] at hv;simp at hv;subst hv
      obtain ⟨k1,k2,s,k3,k4⟩:=hp.2 j x p hx hpj
      have h4:s.holds G.μ ⟨w,G.S⟩ (a.eval x.2):=look_of h ((hl x.2 (by
       simp only [ho,Op.operands,List.mem_toArray,List.mem_map]
       exact ⟨x,List.mem_of_getElem? hx,rfl⟩)).trans k3)
      have h5:=h4.cells
      rw [k4] at h5
      refine ⟨k1.symm,k2,by have:=h5.1;simpa using this,fun i q u hq hu=>?_⟩
      exact h5.2 i (.p q) u (by simp [hq]) hu
    obtain ⟨arr',h4,h5,_,h7⟩:=fill_slice (X:=⟨w,G.S⟩) (μ:=G.μ) sze ps _ 0 ((Array.range (n * sze)).map (fun j=>zv.cells[j % zv.cells.size]!)) hph hidx (by simp [hpl])
    have hn63:n≤maxLen:=by
     have:n≤n * sze:=Nat.le_mul_of_pos_right n hz0
     simp only [maxLen];omega
    refine ⟨.slice (some ⟨w.heap.size,0,none⟩) n n,w.alloc (.cells arr' e),(some w.heap.size,n),[w.heap.size],?_,rfl,.same,rfl,by simp,fun k hk _=>Below.heap_alloc w _ k hk,by simp,?_,?_⟩
    ·have hparts:(parts.map fun (i,x)=>(i,a.eval x)).toList=parts.toList.map fun (i,x)=>(i,a.eval x):=by simp
     have h4':Instr.fill (fun i=>some (i * sze,sze)) ((Array.range (n * sze)).map (fun j=>(if n * sze=0 then #[] else zv.cells)[j % (if n * sze=0 then #[] else zv.cells).size]!)) (parts.map fun (i,x)=>(i,a.eval x)).toList=some arr':=by
      rw [hparts]
      by_cases hn0:n * sze=0
      ·have e0:∀ f:Nat→Value,(Array.range 0).map f = #[]:=fun f=>by simp [Array.range]
       rw [hn0,e0] at h4 ⊢
       exact h4
      ·simp only [hn0,if_false];exact h4
     simp only [execOp,ho,Instr.buildSlice,Sem.run_bind,run_underlying hdd,Result.andThen_ok,he.run_sizeOf]
     rw [if_neg (by omega)]
     split
     ·rename_i hn0
      simp only [hn0,if_true] at h4' ⊢
      simp only [Sem.run_bind,Result.andThen_ok,Sem.run_pure,h4',newRow,run_newObj_alloc]
     ·rename_i hn0
      simp only [hn0,if_false] at h4'
      have hz1:(zeroValue e).run C.P w=.ok zv w:=by simp [zeroValue,typeInfo,hie,hz0']
      simp only [Sem.run_bind,hz1,Result.andThen_ok,Sem.run_pure,h4',newRow,run_newObj_alloc]
    ·refine ⟨hz0,hn63,by simp [rowsOf,hpl],.inr ⟨w.heap.size,arr',rfl,rfl,heap_alloc_new w _,by rw [h5];simp,?_⟩⟩
     intro i row hrow
     simp only [rowsOf,List.getElem?_map] at hrow
     cases hpi:ps[i]? with
     | none=>rw [hpi] at hrow;cases hrow
     | some p=>
      rw [hpi] at hrow;simp at hrow;subst hrow
      have hi2:i < parts.toList.length:=by rw [hp.1];exact (List.getElem?_eq_some_iff.1 hpi).1
      obtain ⟨_,k2,_⟩:=hp.2 i _ p (List.getElem?_eq_getElem hi2) hpi
      refine ⟨k2,fun j q hq=>?_⟩
      obtain ⟨u,hu,hqu⟩:=h7 i p hpi j q hq
      exact ⟨u,by simpa using hu,q.mono (x:=⟨w,G.S⟩) (fun b hb=>⟨hb,Below.heap_alloc w _ b (h.sbd b hb).1⟩) hqu⟩
    ·exact ⟨some w.heap.size,n,mu_new hglen,by simp,by simp⟩
section
variable {T e:TypeId} {sz by_:Nat} {ke:TK} {es be:Nat} {z:List Value} {d n0:Nat} {mo0:Option MO}
theorem lop_bo0 (ho:o.op=.buildSlice T 0 #[]) (hT:TI C.P T (.slice e) sz by_) (he:TI C.P e ke es be) (hz:TZ C.P e z) (hdst:o.dst=some d) (hm0:σ.mem d=(n0,mo0)) (hes:(0:Nat) < es) (hd:dOk C o.dst=true):LOp C o σ ⟨.o (.osl d n0 es 0 0),[(d,(n0+1,some (.buf e es [])))]⟩ (fun q=>q == d):=
 lop_buildO (ps:=[]) ho hdst hm0 .nil rfl hes (by simp) hd
theorem lop_bo1 {x0:Operand} {p0:PVal} (ho:o.op=.buildSlice T 1 #[(0,x0)]) (hT:TI C.P T (.slice e) sz by_) (he:TI C.P e ke 1 be) (hz:TZ C.P e z) (hdst:o.dst=some d) (hm0:σ.mem d=(n0,mo0)) (h0:σ.look x0=.p p0) (hd:dOk C o.dst=true):LOp C o σ ⟨.o (.osl d n0 1 0 1),[(d,(n0+1,some (.buf e 1 [[p0]])))]⟩ (fun q=>q == d):=
 lop_buildO (ps:=[(0,[p0])]) ho hdst hm0 (.cons ⟨rfl,rfl,_,h0,rfl⟩ .nil) rfl (by decide) (by decide) hd
end
theorem lop_ap_oa {q:α→PVal} {l m:List α} {T e ty:TypeId} {x y:Operand} {sz by_:Nat} {ke:TK} {be:Nat} {z:List Value} {ob g n len ob2 g2 n2 i k cap:Nat} (ho:o.op=.call ⟨.builtin .append,#[x,y],#[T,T]⟩) (hT:TI C.P T (.slice e) sz by_) (he:TI C.P e ke 1 be) (hz:TZ C.P e z)
  (hx:σ.look x=.o (.osl ob g 1 0 len)) (hm:σ.mem ob=(n,some (.buf e 1 (m.map fun a=>[q a])))) (hn:n=g+1) (hlr:len=m.length) (hy:σ.look y=.o (.asl ob2 g2 (0+i * k) k cap)) (hm2:σ.mem ob2=(n2,some (.box ty (l.map fun a=>.p (q a))))) (hn2:n2=g2+1) (hl:i * k+k≤l.length)
  (hzl:z.length=1) (h63:m.length+k≤maxLen) (hby:(m.length+k) * be≤140737488355328) (hd:dOk C o.dst=true) :
  LOp C o σ ⟨.o (.osl ob n 1 0 (m++rowOf k l i).length),[(ob,(n+1,some (.buf e 1 ((m++rowOf k l i).map fun a=>[q a]))))]⟩ (fun q=>q == ob2||q == ob):=by
 rw [Nat.zero_add] at hy
 unfold rowOf
 generalize i * k=off at hy hl ⊢
 have hlen:((l.drop off).take k).length=k:=by simp;omega
 have hsrc:SrcOk C σ y 1 (((l.drop off).take k).map fun a=>[q a]) (fun y=>y == ob2):=src_asl hy hm2 hn2 (by simpa using hlen) fun i row hr=>by
  rw [List.getElem?_map] at hr
  cases hi:((l.drop off).take k)[i]? with
  | none=>rw [hi] at hr;cases hr
  | some a=>
   rw [hi] at hr;simp at hr;subst hr
   refine ⟨rfl,fun j p hp=>?_⟩
   cases j with
   | succ j=>simp at hp
   | zero=>
    simp at hp;subst hp
    rw [List.getElem?_take] at hi
    split at hi
    ·simp at hi;simp [hi]
    ·cases hi
 have:=lop_append_osl (o:=o) ho hx hm hn (by simpa using hlr) hsrc hzl (by rw [List.length_map,List.length_map,hlen];exact h63) (by rw [List.length_map,List.length_map,hlen];exact hby) hd
 simpa using this
theorem lop_ap_ow {q:α→PVal} {l m:List α} {T e ty:TypeId} {x y:Operand} {sz by_:Nat} {ke:TK} {be:Nat} {z:List Value} {ob g n len ob2 g2 n2 k cap:Nat} (ho:o.op=.call ⟨.builtin .append,#[x,y],#[T,T]⟩) (hT:TI C.P T (.slice e) sz by_) (he:TI C.P e ke 1 be) (hz:TZ C.P e z)
  (hx:σ.look x=.o (.osl ob g 1 0 len)) (hm:σ.mem ob=(n,some (.buf e 1 (m.map fun a=>[q a])))) (hn:n=g+1) (hlr:len=m.length) (hy:σ.look y=.o (.asl ob2 g2 0 k cap)) (hm2:σ.mem ob2=(n2,some (.box ty (l.map fun a=>.p (q a))))) (hn2:n2=g2+1) (hl:l.length=k)
  (hzl:z.length=1) (h63:m.length+k≤maxLen) (hby:(m.length+k) * be≤140737488355328) (hd:dOk C o.dst=true) :
  LOp C o σ ⟨.o (.osl ob n 1 0 (m++l).length),[(ob,(n+1,some (.buf e 1 ((m++l).map fun a=>[q a]))))]⟩ (fun q=>q == ob2||q == ob):=by
 have:=lop_ap_oa (i:=0) ho hT he hz hx hm hn hlr (by simpa using hy) hm2 hn2 (by omega) hzl h63 hby hd
 rwa [show rowOf k l 0=l from by simp [rowOf,← hl]] at this
theorem lop_ap_ex1 {f:α→List PVal} {m:List α} {v:α} {row:List PVal} {T e:TypeId} {x y:Operand} {sz by_:Nat} {ke:TK} {es be:Nat} {z:List Value} {ey:Bool} (ho:o.op=.call ⟨.builtin .append,#[x,y],#[T,T]⟩) (hT:TI C.P T (.slice e) sz by_) (he:TI C.P e ke es be) (hz:TZ C.P e z) (hx:σ.look x=.p (.sl es [row] true)) (hy:σ.look y=.p (.sl es (m.map f) ey)) (hrow:row=f v)
  (hzl:z.length=es) (h63:1+m.length≤maxLen) (hby:(1+m.length) * be≤140737488355328) (hd:dOk C o.dst=true) :
  LOp C o σ ⟨.p (.sl es ((v::m).map f) false),[]⟩ (fun _=>false):=by
 subst hrow
 have:=lop_append_ex (o:=o) (hT:=hT) (he:=he) (hz:=hz) ho hx (src_sl hy) hzl (by simpa using h63) (by simpa using hby) hd
 simpa using this
end ops
end Go.Aw
/- THE ABSTRACT WALK, part 23: steps over parts of arrays, strings, slices that grow. Nothing here speaks of a program. -/
namespace Go.Aw
open Go Go.RowKit
set_option linter.unusedVariables false
set_option linter.unusedSimpArgs false
theorem lopB {C:Ctx} {o:Oper} {σ:St} {e:Eff} {ro:Nat→Bool} (h:LOp C o σ e ro:=by
  first
     | (apply gIndex;(focus rfl);apply lop_ix_asl;(focus rfl);(focus exact inferInstance);(focus exact inferInstance);(focus rfl);(focus rfl);(focus omega);(focus omega);(focus rfl))
     | (apply gLoad;(focus rfl);first|(apply lop_ld_rw;(focus rfl);(focus exact inferInstance);(focus rfl);(focus rfl);(focus rfl);(focus rfl);(focus first|assumption|omega|(exact rowOf_len (by omega))|(simp only [List.length_map];omega)|(simp [*];done));(focus rfl))|(apply lop_ld_row;(focus rfl);(focus exact inferInstance);(focus rfl);(focus rfl);(focus decide);(focus first|assumption|omega|(exact rowOf_len (by omega))|(simp only [List.length_map];omega)|(simp [*];done));(focus rfl)))
     | (apply gBin;(focus rfl);first|(apply lop_eq_k;(focus rfl);(focus exact inferInstance);(focus rfl);(focus rfl);(focus first|assumption|omega|(exact rowOf_len (by omega))|(simp only [List.length_map];omega)|(simp [*];done));(focus first|assumption|omega|(exact rowOf_len (by omega))|(simp only [List.length_map];omega)|(simp [*];done));(focus exact ⟨_,_,_,inferInstance,rfl⟩);(focus rfl))|(apply lop_ne_k;(focus rfl);(focus exact inferInstance);(focus rfl);(focus rfl);(focus first|assumption|omega|(exact rowOf_len (by omega))|(simp only [List.length_map];omega)|(simp [*];done));(focus first|assumption|omega|(exact rowOf_len (by omega))|(simp only [List.length_map];omega)|(simp [*];done));(focus exact ⟨_,_,_,inferInstance,rfl⟩);(focus rfl))|(apply lop_eqs;(focus rfl);(focus exact inferInstance);(focus rfl);(focus rfl);(focus assumption);(focus assumption);(focus rfl))|(apply lop_nes;(focus rfl);(focus exact inferInstance);(focus rfl);(focus rfl);(focus assumption);(focus assumption);(focus rfl)))
     | (apply gCallB;(focus rfl);first|(apply lop_ap_oa;(focus rfl);(focus exact inferInstance);(focus exact inferInstance);(focus exact inferInstance);(focus rfl);(focus rfl);(focus rfl);(focus rfl);(focus rfl);(focus rfl);(focus rfl);(focus first|assumption|omega|(exact rowOf_len (by omega))|(simp only [List.length_map];omega)|(simp [*];done));(focus rfl);(focus first|(simp only [maxLen,List.length_append,List.length_cons,List.length_nil,List.length_take,List.length_drop,List.length_map];omega)|omega);(focus first|(simp only [maxLen,List.length_append,List.length_cons,List.length_nil,List.length_take,List.length_drop,List.length_map];omega)|omega);(focus rfl))|(apply lop_ap_ow;(focus rfl);(focus exact inferInstance);(focus exact inferInstance);(focus exact inferInstance);(focus rfl);(focus rfl);(focus rfl);(focus rfl);(focus rfl);(focus rfl);(focus rfl);(focus first|assumption|omega|(exact rowOf_len (by omega))|(simp only [List.length_map];omega)|(simp [*];done));(focus rfl);(focus first|(simp only [maxLen,List.length_append,List.length_cons,List.length_nil,List.length_take,List.length_drop,List.length_map];omega)|omega);(focus first|(simp only [maxLen,List.length_append,List.length_cons,List.length_nil,List.length_take,List.length_drop,List.length_map];omega)|omega);(focus rfl))|(apply lop_ap_ex1;(focus rfl);(focus exact inferInstance);(focus exact inferInstance);(focus exact inferInstance);(focus rfl);(focus rfl);(focus rfl);(focus rfl);(focus first|(simp only [maxLen,List.length_append,List.length_cons,List.length_nil,List.length_take,List.length_drop,List.length_map];omega)|omega);(focus first|(simp only [maxLen,List.length_append,List.length_cons,List.length_nil,List.length_take,List.length_drop,List.length_map];omega)|omega);(focus rfl)))
     | (apply gSlice;(focus rfl);apply lop_sl_arr;(focus rfl);(focus exact inferInstance);(focus exact inferInstance);(focus rfl);(focus rfl))
     | (apply lop_cv_bs;(focus rfl);(focus exact inferInstance);(focus exact inferInstance);(focus exact inferInstance);(focus rfl);(focus rfl))
     | (apply lop_cv_sb;(focus rfl);(focus exact inferInstance);(focus exact inferInstance);(focus exact inferInstance);(focus rfl);(focus assumption);(focus first|(simp only [maxLen,List.length_append,List.length_cons,List.length_nil,List.length_take,List.length_drop,List.length_map];omega)|omega);(focus rfl))
     | (apply lop_ix_rw;(focus rfl);(focus exact inferInstance);(focus exact inferInstance);(focus rfl);(focus rfl);(focus omega);(focus omega);(focus rfl);(focus first|assumption|omega|(exact rowOf_len (by omega))|(simp only [List.length_map];omega)|(simp [*];done));(focus rfl))
     | exact lopA
     | fail):LOp C o σ e ro:=h
theorem stoB {C:Ctx} {o:Oper} {σ:St} {e:Eff} {ro:Nat→Bool} (h:LOp C o σ e ro:=by
  first|(apply lop_st_rw;(focus rfl);(focus exact inferInstance);(focus rfl);(focus rfl);(focus rfl);(focus rfl);(focus rfl);(focus first|assumption|omega|(exact rowOf_len (by omega))|(simp only [List.length_map];omega)|(simp [*];done));(focus first|assumption|omega|(exact rowOf_len (by omega))|(simp only [List.length_map];omega)|(simp [*];done)))|exact stoA|fail):LOp C o σ e ro:=h
section steps
variable {C:Ctx} {ops:Array Oper} {o:Oper} {rest:List Oper} {K:St→Prop} {σ:St} {e:Eff} {ro:Nat→Bool} {W:List (Nat × Nat)} {i:Nat}
theorem rnB {d:Nat} (hg:Guard ops σ o true:=by first|exact gd_n rfl rfl|exact gd_t rfl rfl rfl rfl|exact gd_t rfl rfl rfl (by assumption)) (hd:o.dst=some d:=by rfl) (h:LOp C o σ e ro:=by exact lopB) (hk:RunN C ops rest K (e.app (some d) σ)):RunN C ops (o::rest) K σ:=rn_any hg hd h hk
theorem rkB {d:Nat} (hg:Guard ops σ o true:=by first|exact gd_n rfl rfl|exact gd_t rfl rfl rfl rfl|exact gd_t rfl rfl rfl (by assumption)) (hd':o.dst=some d:=by rfl) (hd:dOk C o.dst=true:=by rfl) (h:LOp C o σ e ro:=by exact lopB) (hro:∀ x,ro x=true→okObj ops W i x=true:=by first|exact fun _=>ro_none|exact ro_one rfl|exact ro_one (by kernel_rfl)|exact ro_kIn (by decide)) (hob:∀ p∈e.obj,(i,p.1)∈W:=by first|exact ob_none|exact ob_one (by decide)|decide) (hk:RunK C ops W (i+1) rest K (e.app (some d) σ)):RunK C ops W i (o::rest) K σ:=rk_wr hg hd' hd h hro hob hk
theorem rnSB (hg:Guard ops σ o true:=by first|exact gd_n rfl rfl|exact gd_t rfl rfl rfl rfl|exact gd_t rfl rfl rfl (by assumption)) (hd:o.dst=none:=by rfl) (h:LOp C o σ e ro:=by exact stoB) (hk:RunN C ops rest K (e.app none σ)):RunN C ops (o::rest) K σ:=rn_sto hg hd h hk
theorem rkSB (hg:Guard ops σ o true:=by first|exact gd_n rfl rfl|exact gd_t rfl rfl rfl rfl|exact gd_t rfl rfl rfl (by assumption)) (hd':o.dst=none:=by rfl) (h:LOp C o σ e ro:=by exact stoB) (hro:∀ x,ro x=true→okObj ops W i x=true:=by first|exact fun _=>ro_none|exact ro_one rfl|exact ro_one (by kernel_rfl)|exact ro_kIn (by decide)) (hob:∀ p∈e.obj,(i,p.1)∈W:=by first|exact ob_none|exact ob_one (by decide)|decide) (hk:RunK C ops W (i+1) rest K (e.app none σ)):RunK C ops W i (o::rest) K σ:=rk_sto hg hd' h hro hob hk
end steps
end Go.Aw
/- THE ABSTRACT WALK, part 24: scopes with a label to which one jumps back. Nothing here speaks of a program. -/
namespace Go.Aw
open Go Go.RowKit
set_option linter.unusedVariables false
set_option linter.unusedSimpArgs false
theorem lop_bz {C:Ctx} {o:Oper} {σ:St} {T e:TypeId} {sz by_:Nat} {k:IntKind} {be:Nat} {z:List Value} {d n0:Nat} {mo0:Option MO} (ho:o.op=.buildSlice T 0 #[]) (hT:TI C.P T (.slice e) sz by_) (he:TI C.P e (.int k) 1 be) (hz:TZ C.P e z) (hdst:o.dst=some d) (hm0:σ.mem d=(n0,mo0)) (hd:dOk C o.dst=true) :
  LOp C o σ ⟨.o (.osl d n0 1 0 ([]:List Nat).length),[(d,(n0+1,some (.buf e 1 (([]:List Nat).map fun n:Nat=>[PVal.v (.int k n)]))))]⟩ (fun q=>q == d):=lop_bo0 ho hT he hz hdst hm0 (by decide) hd
end Go.Aw
/- THE ABSTRACT WALK, part 14: what is read of plain arguments, type by type; a law's statement out of its contract. Nothing here speaks of a program. -/
namespace Go.Aw
open Go Go.RowKit
set_option linter.unusedVariables false
set_option linter.unusedSimpArgs false
def whole (w:World):Wd:=⟨w,fun b=>b < w.heap.size⟩
def Reads (P:Program) (T:TypeId) (α:Type) (row:α→List PVal) (ok:α→Prop):Prop:=
 ∀ (H:Type) (enc:TypeId × Value→H) (w:World) (fuel:Nat) (cs:List Value) (x:DataW H × List MemPlace),
  DataW.trod enc P w 0 (fun _=>true) true fuel T cs=some x→∃ a,ok a∧All2 (fun p c=>p.holds (whole w) c) (row a) cs
theorem Reads.imp {P:Program} {T:TypeId} {α β:Type} {row:α→List PVal} {ok:α→Prop} (h:Reads P T α row ok) {row':β→List PVal} {ok':β→Prop} (f:α→β) (h1:∀ a,row' (f a)=row a) (h2:∀ a,ok a→ok' (f a)):Reads P T β row' ok':=
 fun H enc w fuel cs x hx=>by
  obtain ⟨a,ha,hh⟩:=h H enc w fuel cs x hx
  exact ⟨f a,h2 a ha,by rw [h1];exact hh⟩
theorem reads_int {P:Program} {T:TypeId} {k:IntKind} {sz by_:Nat} (hT:TI P T (.int k) sz by_):Reads P T Int (fun n=>[.k k n]) (fun n=>k.min≤n∧n≤k.max):=by
 intro H enc w fuel cs x h
 obtain ⟨d,hd,hk⟩:=hT.undd
 cases d<;>simp [TK.of] at hk
 subst hk
 cases fuel with
 | zero=>simp [DataW.trod] at h
 | succ f=>
  simp only [DataW.trod,hd] at h
  split at h<;>try (first|(simp at h;done)|(exfalso;simp_all;done))
  rename_i k' k'' n he
  simp only [Option.some.injEq,TypeDesc.int.injEq] at he
  subst he
  split at h
  ·rename_i hw
   obtain ⟨rfl,hw⟩:=hw
   exact ⟨n,by simpa [Lit.wf] using hw,.cons ⟨rfl,rfl⟩ .nil⟩
  ·simp at h
theorem reads_string {P:Program} {T:TypeId} {sz by_:Nat} (hT:TI P T .string sz by_):Reads P T ByteArray (fun s=>[.v (.string s)]) (fun s=>s.size≤maxLen):=by
 intro H enc w fuel cs x h
 obtain ⟨d,hd,hk⟩:=hT.undd
 cases d<;>simp [TK.of] at hk
 cases fuel with
 | zero=>simp [DataW.trod] at h
 | succ f=>
  simp only [DataW.trod,hd] at h
  split at h<;>simp_all
  rename_i s
  exact ⟨s,h.1,.cons ⟨rfl,rfl⟩ .nil⟩
theorem reads_many {P:Program} {e:TypeId} {α:Type} {row:α→List PVal} {ok:α→Prop} (he:Reads P e α row ok) {H:Type} {enc:TypeId × Value→H} {w:World} {fuel es:Nat} {cellsAt:Nat→Option (List Value)} (hlen:∀ i cs,cellsAt i=some cs→cs.length=es) :
  ∀ (is:List Nat) (xs:List (DataW H × List MemPlace)),is.mapM (fun i=>(cellsAt i).bind (DataW.trod enc P w 0 (fun _=>true) true fuel e))=some xs→
   ∃ l:List α,l.length=is.length∧(∀ a∈l,ok a)∧∀ (k:Nat) a i,l[k]?=some a→is[k]?=some i→(row a).length=es∧∃ cs,cellsAt i=some cs∧All2 (fun p c=>p.holds (whole w) c) (row a) cs
 | [],xs,h=>⟨[],rfl,by simp,by simp⟩
 | i::is,xs,h=>by
  simp only [List.mapM_cons] at h
  cases hc:cellsAt i with
  | none=>simp [hc] at h
  | some cs=>
   cases ht:DataW.trod enc P w 0 (fun _=>true) true fuel e cs with
   | none=>simp [hc,ht] at h
   | some x=>
    cases hm:is.mapM (fun i=>(cellsAt i).bind (DataW.trod enc P w 0 (fun _=>true) true fuel e)) with
    | none=>simp [hc,ht,hm] at h
    | some ys=>
     obtain ⟨a,ha,hh⟩:=he H enc w fuel cs x ht
     obtain ⟨l,h1,h2,h3⟩:=reads_many he hlen is ys hm
     refine ⟨a::l,by simp [h1],by intro b hb;simp at hb;rcases hb with rfl|hb;exact ha;exact h2 b hb,fun k b j hb hj=>?_⟩
     cases k with
     | zero=>simp at hb hj;subst hb;subst hj;exact ⟨hh.1.trans (hlen _ _ hc),cs,hc,hh⟩
     | succ k=>exact h3 k b j (by simpa using hb) (by simpa using hj)
theorem cells_row {w:World} {a:Addr} {n:Nat} {cs:List Value} (h:w.cells? 0 a n=some cs):cs.length=n∧∀ (j:Nat) c,cs[j]?=some c→w.cell? (a.add j)=some c:=by
 simp only [World.cells?,Nat.zero_le,if_true] at h
 have key:∀ (is:List Nat) (cs:List Value),is.mapM (fun i=>w.cell? (a.add i))=some cs→cs.length=is.length∧∀ (j:Nat) c i,cs[j]?=some c→is[j]?=some i→w.cell? (a.add i)=some c:=by
  intro is
  induction is with
  | nil=>intro cs h;simp at h;subst h;simp
  | cons i is ih=>
   intro cs h
   simp only [List.mapM_cons] at h
   cases hc:w.cell? (a.add i) with
   | none=>simp [hc] at h
   | some c=>
    cases hm:is.mapM (fun i=>w.cell? (a.add i)) with
    | none=>simp [hc,hm] at h
    | some ds=>
     simp [hc,hm] at h
     subst h
     obtain ⟨h1,h2⟩:=ih ds hm
     refine ⟨by simp [h1],fun j d k hd hk=>?_⟩
     cases j with
     | zero=>simp at hd hk;subst hd;subst hk;exact hc
     | succ j=>exact h2 j d k (by simpa using hd) (by simpa using hk)
 obtain ⟨h1,h2⟩:=key _ _ h
 refine ⟨by simpa using h1,fun j c hc=>?_⟩
 have hj:j < n:=by have:=(List.getElem?_eq_some_iff.1 hc).1;simp at h1;omega
 exact h2 j c j hc (by simp [hj])
theorem cell_in {w:World} {a:Addr} {c:Value} (h:w.cell? a=some c):a.spot=none∧∃ cs ty fr,w.heap[a.block]?=some (.cells cs ty fr)∧cs[a.off]?=some c:=by
 unfold World.cell? at h
 split at h
 ·rename_i cs ty fr hg
  cases hs:a.spot with
  | none=>simp [hs] at h;exact ⟨rfl,cs,ty,fr,hg,h⟩
  | some q=>simp [hs] at h
 ·cases h
theorem add_add (a:Addr) (i j:Nat):(a.add i).add j=a.add (i+j):=by
 unfold Addr.add
 by_cases hi:i=0
 ·simp [hi]
 ·by_cases hj:j=0<;>simp [hi,hj]<;>omega
theorem add_block (a:Addr) (i:Nat):(a.add i).block=a.block:=by unfold Addr.add;split<;>rfl
theorem add_off (a:Addr) (i:Nat):(a.add i).off=a.off+i:=by unfold Addr.add;split<;>simp_all
theorem cellsOf_of {P:Program} {T:TypeId} {k:TK} {sz by_:Nat} (hT:TI P T k sz by_):P.cellsOf T=sz:=by
 obtain ⟨i,hi,hs,_⟩:=hT.infoo
 simp [Program.cellsOf,hi,hs]
theorem reads_slice {P:Program} {T e:TypeId} {sz by_:Nat} (hT:TI P T (.slice e) sz by_) {ke:TK} {es be:Nat} (hE:TI P e ke es be) (h0:0 < es) {α:Type} {row:α→List PVal} {ok:α→Prop} (he:Reads P e α row ok) :
  Reads P T (List α) (fun l=>[.sl es (l.map row) false]) (fun l=>l.length≤maxLen∧∀ a∈l,ok a):=by
 intro H enc w fuel cs x h
 obtain ⟨d,hd,hk⟩:=hT.undd
 cases d<;>simp [TK.of] at hk
 subst hk
 rename_i e
 have hc:=cellsOf_of hE
 cases fuel with
 | zero=>simp [DataW.trod] at h
 | succ f=>
  simp only [DataW.trod,hd] at h
  split at h<;>try (first|(simp_all;done)|(exfalso;simp_all;done))
  ·rename_i e' he'
   simp only [Option.some.injEq,TypeDesc.slice.injEq] at he'
   refine ⟨[],by simp,.cons ⟨none,0,rfl,Nat.le_refl _,by simp [maxLen],by simp,rfl,rfl⟩ .nil⟩
  ·rename_i e' a len cap he'
   simp only [Option.some.injEq,TypeDesc.slice.injEq] at he'
   subst he'
   split at h
   ·rename_i hb
    cases hm:(List.range len).mapM (fun i=>(w.cells? 0 (a.add (i * P.cellsOf e)) (P.cellsOf e)).bind (DataW.trod enc P w 0 (fun _=>true) true f e)) with
    | none=>simp [hm] at h
    | some elems=>
     rw [hc] at hm
     obtain ⟨l,h1,h2,h3⟩:=reads_many he (es:=es) (cellsAt:=fun i=>w.cells? 0 (a.add (i * es)) es) (fun i cs hcs=>(cells_row hcs).1) _ _ hm
     simp only [List.length_range] at h1
     have hread:∀ (i:Nat) row',(l.map row)[i]?=some row'→row'.length=es∧∀ (j:Nat) p,row'[j]?=some p→∃ c,w.cell? (a.add (i * es+j))=some c∧p.holds (whole w) c:=by
      intro i row' hr
      rw [List.getElem?_map] at hr
      cases hli:l[i]? with
      | none=>rw [hli] at hr;cases hr
      | some b=>
       rw [hli] at hr;simp at hr;subst hr
       have hil:i < len:=by rw [← h1];exact (List.getElem?_eq_some_iff.1 hli).1
       obtain ⟨k1,cs,k2,k3⟩:=h3 i b i hli (by simp [hil])
       obtain ⟨q1,q2⟩:=cells_row k2
       refine ⟨k1,fun j p hp=>?_⟩
       obtain ⟨c,hcj,hpc⟩:=k3.get hp
       exact ⟨c,by rw [← add_add];exact q2 j c hcj,hpc⟩
     refine ⟨l,⟨by omega,h2⟩,.cons ⟨some a,cap,by simp [h1],by simp [h1];omega,by omega,by simp,?_⟩ .nil⟩
     cases hl:l with
     | nil=>exact .inl rfl
     | cons b l'=>
      right
      have h00:=hread 0 (row b) (by simp [hl])
      have hrow0:∃ p,(row b)[0]?=some p:=⟨(row b)[0]'(by rw [h00.1];exact h0),by simp⟩
      obtain ⟨p0,hp0⟩:=hrow0
      obtain ⟨c0,hc0,_⟩:=h00.2 0 p0 hp0
      simp only [Nat.zero_mul,Nat.zero_add] at hc0
      have ha0:a.add 0=a:=by simp [Addr.add]
      rw [ha0] at hc0
      obtain ⟨hs,cs,ty,fr,hg,_⟩:=cell_in hc0
      have hblk:a.block < w.heap.size:=(Array.getElem?_eq_some_iff.1 hg).1
      refine ⟨hs,hblk,cs,ty,fr,hg,fun i row' hr=>?_⟩
      rw [← hl] at hr
      refine ⟨(hread i row' hr).1,fun j p hp=>?_⟩
      obtain ⟨c,hcc,hpc⟩:=(hread i row' hr).2 j p hp
      obtain ⟨_,cs',ty',fr',hg',hoff⟩:=cell_in hcc
      rw [add_block,hg] at hg'
      simp only [Option.some.injEq,Obj.cells.injEq] at hg'
      obtain ⟨rfl,_,_⟩:=hg'
      rw [add_off] at hoff
      exact ⟨c,by rw [← hoff];congr 1;omega,hpc⟩
   ·cases h
theorem All2.flat {α β:Type} {R:α→β→Prop} {es:Nat}:∀ (rows:List (List α)) (cs:List β),cs.length=rows.length * es→(∀ (i:Nat) r,rows[i]?=some r→r.length=es∧All2 R r ((cs.drop (i * es)).take es))→All2 R rows.flatten cs
 | [],cs,h,_=>by simp at h;subst h;exact .nil
 | r::rows,cs,h,hr=>by
  have h0:=hr 0 r rfl
  simp only [Nat.zero_mul,List.drop_zero] at h0
  have e:cs=cs.take es++cs.drop es:=(List.take_append_drop es cs).symm
  rw [e,List.flatten_cons]
  refine h0.2.append (All2.flat (es:=es) rows _ ?_ fun i r' hr'=>?_)
  ·simp only [List.length_cons,Nat.add_mul,Nat.one_mul,List.length_drop] at *;omega
  ·have:=hr (i+1) r' (by simpa using hr')
   rw [List.drop_drop]
   have e2:es+i * es=(i+1) * es:=by rw [Nat.add_mul];omega
   rw [e2];exact this
theorem mapM_congr' {α β:Type} {f g:α→Option β}:∀ {l:List α},(∀ x∈l,f x=g x)→l.mapM f=l.mapM g
 | [],_=>rfl
 | x::l,h=>by
  simp only [List.mapM_cons]
  rw [h x (by simp),mapM_congr' (l:=l) fun y hy=>h y (by simp [hy])]
theorem reads_array {P:Program} {T e:TypeId} {n sz by_:Nat} (hT:TI P T (.array n e) sz by_) {ke:TK} {es be:Nat} (hE:TI P e ke es be) (hs:sz=n * es) {α:Type} {row:α→List PVal} {ok:α→Prop} (he:Reads P e α row ok) :
  Reads P T (List α) (fun l=>(l.map row).flatten) (fun l=>l.length=n∧∀ a∈l,ok a):=by
 intro H enc w fuel cs x h
 obtain ⟨d,hd,hk⟩:=hT.undd
 cases d<;>simp [TK.of] at hk
 obtain ⟨rfl,rfl⟩:=hk
 rename_i n e
 have hc:=cellsOf_of hE
 have hc':=cellsOf_of hT
 cases fuel with
 | zero=>simp [DataW.trod] at h
 | succ f=>
  simp only [DataW.trod,hd] at h
  split at h
  ·rename_i hlen
   rw [hc'] at hlen
   rw [hc] at h
   cases hm:(List.range n).mapM (fun i=>DataW.trod enc P w 0 (fun _=>true) true f e ((cs.drop (i * es)).take es)) with
   | none=>simp [hm] at h
   | some xs=>
    obtain ⟨l,h1,h2,h3⟩:=reads_many he (es:=es) (cellsAt:=fun i=>if i < n then some ((cs.drop (i * es)).take es) else none) (w:=w) (enc:=enc) (fuel:=f) (fun i c hc=>by
     split at hc
     ·rename_i hi
      simp only [Option.some.injEq] at hc;subst hc
      have:(i+1) * es≤n * es:=Nat.mul_le_mul_right es hi
      simp only [List.length_take,List.length_drop,Nat.add_mul,Nat.one_mul] at *;omega
     ·cases hc) (List.range n) xs (by
      rw [← hm]
      exact mapM_congr' fun i hi=>by simp only [List.mem_range] at hi;simp [hi])
    simp only [List.length_range] at h1
    refine ⟨l,⟨h1,h2⟩,All2.flat (es:=es) _ _ (by simp [h1,hlen,hs]) fun i r hr=>?_⟩
    rw [List.getElem?_map] at hr
    cases hli:l[i]? with
    | none=>rw [hli] at hr;cases hr
    | some b=>
     rw [hli] at hr;simp at hr;subst hr
     have hil:i < n:=by rw [← h1];exact (List.getElem?_eq_some_iff.1 hli).1
     obtain ⟨k1,c,k2,k3⟩:=h3 i b i hli (by simp [hil])
     simp only [hil,if_true,Option.some.injEq] at k2
     subst k2
     exact ⟨k1,k3⟩
  ·cases h
def ReadsFs (P:Program) (sz off:Nat) (fs:List (Nat × TypeId)) (α:Type) (row:α→List PVal) (ok:α→Prop):Prop:=
 ∀ (H:Type) (enc:TypeId × Value→H) (w:World) (fuel:Nat) (cs:List Value) (xs:List (DataW H × List MemPlace)),cs.length=sz→
  fs.mapM (fun f=>DataW.trod enc P w 0 (fun _=>true) true fuel f.2 ((cs.drop f.1).take (P.cellsOf f.2)))=some xs→∃ a,ok a∧All2 (fun p c=>p.holds (whole w) c) (row a) (cs.drop off)
theorem readsFs_nil {P:Program} {sz off:Nat} (h:off=sz):ReadsFs P sz off [] Unit (fun _=>[]) (fun _=>True):=fun H enc w fuel cs xs hl hx=>
 ⟨(),trivial,by rw [List.drop_of_length_le (by omega)];exact .nil⟩
theorem readsFs_cons {P:Program} {sz off T:Nat} {k:TK} {sf bf:Nat} (hT:TI P T k sf bf) {fs:List (Nat × TypeId)} {α β:Type} {row:α→List PVal} {ok:α→Prop} {row':β→List PVal} {ok':β→Prop} (h:Reads P T α row ok) (h':ReadsFs P sz (off+sf) fs β row' ok') :
  ReadsFs P sz off ((off,T)::fs) (α × β) (fun x=>row x.1++row' x.2) (fun x=>ok x.1∧ok' x.2):=by
 intro H enc w fuel cs xs hl hx
 simp only [List.mapM_cons,cellsOf_of hT] at hx
 cases h1:DataW.trod enc P w 0 (fun _=>true) true fuel T ((cs.drop off).take sf) with
 | none=>simp [h1] at hx
 | some x=>
  cases h2:fs.mapM (fun f=>DataW.trod enc P w 0 (fun _=>true) true fuel f.2 ((cs.drop f.1).take (P.cellsOf f.2))) with
  | none=>simp [h1,h2] at hx
  | some ys=>
   obtain ⟨a,ha,hra⟩:=h H enc w fuel _ _ h1
   obtain ⟨b,hb,hrb⟩:=h' H enc w fuel cs ys hl h2
   refine ⟨(a,b),⟨ha,hb⟩,?_⟩
   have e:cs.drop off=(cs.drop off).take sf++cs.drop (off+sf):=by rw [← List.drop_drop];exact (List.take_append_drop _ _).symm
   rw [e];exact hra.append hrb
theorem reads_struct {P:Program} {T:TypeId} {fs:List (Nat × TypeId)} {sz by_:Nat} (hT:TI P T (.struct fs) sz by_) {α:Type} {row:α→List PVal} {ok:α→Prop} (h:ReadsFs P sz 0 fs α row ok):Reads P T α row ok:=by
 intro H enc w fuel cs x hx
 obtain ⟨d,hd,hk⟩:=hT.undd
 cases d<;>simp [TK.of] at hk
 subst hk
 rename_i fs
 cases fuel with
 | zero=>simp [DataW.trod] at hx
 | succ f=>
  simp only [DataW.trod,hd] at hx
  split at hx
  ·rename_i hlen
   rw [cellsOf_of hT] at hlen
   cases hm:fs.toList.mapM (fun f_1=>DataW.trod enc P w 0 (fun _=>true) true f f_1.type ((cs.drop f_1.offset).take (P.cellsOf f_1.type))) with
   | none=>simp [hm] at hx
   | some xs=>
    have:=h H enc w f cs xs hlen (by rw [← hm,List.mapM_map];rfl)
    simpa using this
  ·cases hx
/-! ### An argument -/
def argAV (agg:Bool) (row:List PVal):AV:=match agg,row with
 | true,row=>.a (row.map .p)
 | false,[p]=>.p p
 | false,_=>.un
theorem arg_holds {P:Program} {T:TypeId} {k:TK} {sz by_:Nat} (hT:TI P T k sz by_) {α:Type} {row:α→List PVal} {ok:α→Prop} (hR:Reads P T α row ok) {w:World} {base:Nat} {v:Value} {H:Type} {enc:TypeId × Value→H} {d:DataW H} {ps:List MemPlace}
  (hok:Value.okWide P w .any base T v) (h:DataW.Trod enc P w 0 (fun _=>true) true T v d ps):∃ a,ok a∧(argAV k.agg (row a)).holds Mu.none (whole w) v:=by
 obtain ⟨fuel,h⟩:=h
 obtain ⟨a,ha,hr⟩:=hR H enc w fuel _ _ h
 refine ⟨a,ha,?_⟩
 obtain ⟨d',hd,hk⟩:=hT.undd
 cases hag:k.agg with
 | true=>
  have hv:∃ cs,v=.agg cs:=by
   unfold Value.okWide at hok
   subst hk
   cases d'<;>simp [TK.of,TK.agg] at hag
   all_goals (rw [hd] at hok;obtain ⟨cs,h1,_⟩:=hok;exact ⟨cs,h1⟩)
  obtain ⟨cs,rfl⟩:=hv
  refine ⟨cs.toList,by simp,?_⟩
  have:(Value.agg cs).cells.toList=cs.toList:=by simp [Value.cells]
  rw [this] at hr
  exact ⟨by simpa using hr.1,fun i c x hc hx=>by
   rw [List.getElem?_map] at hc
   cases hp:(row a)[i]? with
   | none=>rw [hp] at hc;cases hc
   | some p=>rw [hp] at hc;simp at hc;subst hc;exact hr.2 i p x hp hx⟩
 | false=>
  by_cases hv:∃ cs,v=.agg cs
  ·obtain ⟨cs,rfl⟩:=hv
   exfalso
   unfold Value.okWide at hok
   subst hk
   cases d'<;>simp [TK.of,TK.agg] at hag<;>(rw [hd] at hok;simp [Cell.okWide,hd,Cell.ok] at hok)
  ·have hc:v.cells.toList=[v]:=by cases v<;>first|(exfalso;exact hv ⟨_,rfl⟩)|simp [Value.cells]
   rw [hc] at hr
   cases hrow:row a with
   | nil=>rw [hrow] at hr;have:=hr.1;simp at this
   | cons p l=>
    rw [hrow] at hr
    obtain ⟨c,m,e1,h1,h2⟩:=hr.cons_inv
    simp at e1
    obtain ⟨rfl,rfl⟩:=e1
    cases l with
    | nil=>exact h1
    | cons q l=>have:=h2.1;simp at this
theorem trodAll_again {H:Type} {enc:TypeId × Value→H} {P:Program} (hl:laidOutB P=true) {W W':World} (hb:Below W.heap.size W W'):∀ {ts:List TypeId} {vs:List Value} {ds:List (DataW H)} {ps:List MemPlace},
  ts.all (fun t=>P.readableRec t&&decide (t < P.types.size))=true→DataW.TrodAll enc P W 0 (fun _=>true) true ts vs ds ps→DataW.TrodAll enc P W' 0 (fun b=>decide (b < W.heap.size)) true ts vs ds ps
 | [],[],[],_,_,h=>h
 | t::ts,v::vs,d::ds,_,ht,⟨p,q,h1,h2,h3⟩=>by
  simp only [List.all_cons,Bool.and_eq_true,decide_eq_true_eq] at ht
  refine ⟨p,q,Below.trod hl ht.1.1 ht.1.2 h1 hb ?_,trodAll_again hl hb (by simpa using ht.2) h2,h3⟩
  obtain ⟨m,hm⟩:=h1
  exact DataW.trod_lt m _ _ _ hm
 | [],_::_,_,_,_,h=>h.elim
 | [],[],_::_,_,_,h=>h.elim
 | _::_,[],_,_,_,h=>h.elim
 | _::_,_::_,[],_,_,h=>h.elim
theorem law_calls {P:Program} {f:FuncId} {args:List AV} (h:PCall P f args (.p (.b true))) {W:World} {vs:List Value} (ha:All2 (AV.holds Mu.none (whole W)) args vs) :
  Calls P f vs.toArray W fun e W'=>e=.returned (.bool true)∧Below W.heap.size W W':=by
 refine (h W (fun b=>b < W.heap.size) vs (fun b hb=>hb) ha).mono ?_
 rintro e W' ⟨v,rfl,⟨S',_,_,hr⟩,hb,_⟩
 obtain ⟨rfl,_⟩:=hr
 exact ⟨rfl,hb⟩
end Go.Aw
/- THE ABSTRACT WALK, part 25: bytes of a constant string; how arguments read, under a condition. Nothing here speaks of a program. -/
namespace Go.Aw
open Go Go.RowKit
set_option linter.unusedVariables false
set_option linter.unusedSimpArgs false
theorem Reads.imp' {P:Program} {T:TypeId} {α β:Type} {row:α→List PVal} {ok:α→Prop} (h:Reads P T α row ok) {row':β→List PVal} {ok':β→Prop} (f:α→β) (h1:∀ a,ok a→row' (f a)=row a) (h2:∀ a,ok a→ok' (f a)):Reads P T β row' ok':=
 fun H enc w fuel cs x hx=>by
  obtain ⟨a,ha,hh⟩:=h H enc w fuel cs x hx
  exact ⟨f a,h2 a ha,by rw [h1 a ha];exact hh⟩
end Go.Aw
