/- THE ABSTRACT WALK, part 30: structs in slices. Nothing here speaks of a program. // THE ABSTRACT WALK, part 31: own slices of structs: a place, loaded, stored, cut, cleared; a copy that grows. Nothing here speaks of a program. // THE ABSTRACT WALK, part 32: a nil slice in a variable, as one that grows; parts of variables; a field of a struct in an own slice. Nothing here speaks of a program. // THE ABSTRACT WALK, part 33: slices in a variable's cells begin to grow, and come to rest. Nothing here speaks of a program. // THE ABSTRACT WALK, part 34: any many pure cells: captured variables, slices written out, parts of captured variables. Nothing here speaks of a program. // THE ABSTRACT WALK, part 35: less said of a slice's elements. Nothing here speaks of a program. // THE ABSTRACT WALK, part 36: three results; an own slice in a struct at hand comes to rest; nothing put to nothing. Nothing here speaks of a program. -/
import Derived.Test.YtkgploeegbmofaaGreatSEA01
import Derived.Test.YtkgploeegbmofaaGreatSEA03
namespace Go.Aw
open Go Go.RowKit
set_option linter.unusedVariables false
set_option linter.unusedSimpArgs false
section ops
variable {C:Ctx} {o:Oper} {σ:St}
theorem lop_ld_at2 {T:TypeId} {x:Operand} {k:TK} {sz by_:Nat} {p0 p1:PVal} (ho:o.op=.load T x) (hT:TI C.P T k sz by_) (hx:σ.look x=.p (.at_ [p0,p1])) (hk:k.agg=true) (hs:sz=2) (hd:dOk C o.dst=true):LOp C o σ ⟨.a [.p p0,.p p1],[]⟩ (fun _=>false):=by
 subst hs;exact lop_load_at (o:=o) ho hx hk (by omega) (by simp) hd
theorem lop_ld_at4 {T:TypeId} {x:Operand} {k:TK} {sz by_:Nat} {p0 p1 p2 p3:PVal} (ho:o.op=.load T x) (hT:TI C.P T k sz by_) (hx:σ.look x=.p (.at_ [p0,p1,p2,p3])) (hk:k.agg=true) (hs:sz=4) (hd:dOk C o.dst=true):LOp C o σ ⟨.a [.p p0,.p p1,.p p2,.p p3],[]⟩ (fun _=>false):=by
 subst hs;exact lop_load_at (o:=o) ho hx hk (by omega) (by simp) hd
end ops
theorem lopJ {C:Ctx} {o:Oper} {σ:St} {e:Eff} {ro:Nat→Bool} (h:LOp C o σ e ro:=by
  first
   | (apply gLoad;(focus rfl);first|(apply lop_ld_at2;(focus rfl);(focus exact inferInstance);(focus rfl);(focus rfl);(focus rfl);(focus rfl))|(apply lop_ld_at4;(focus rfl);(focus exact inferInstance);(focus rfl);(focus rfl);(focus rfl);(focus rfl))|(apply lop_ld_at3;(focus rfl);(focus exact inferInstance);(focus rfl);(focus rfl);(focus rfl);(focus rfl)))
   | exact lopB
   | fail):LOp C o σ e ro:=h
section steps
variable {C:Ctx} {ops:Array Oper} {o:Oper} {rest:List Oper} {K:St→Prop} {σ:St} {e:Eff} {ro:Nat→Bool} {W:List (Nat × Nat)} {i:Nat}
theorem rnJ {d:Nat} (hg:Guard ops σ o true:=by first|exact gd_n rfl rfl|exact gd_t rfl rfl rfl rfl|exact gd_t rfl rfl rfl (by assumption)) (hd:o.dst=some d:=by rfl) (h:LOp C o σ e ro:=by exact lopJ) (hk:RunN C ops rest K (e.app (some d) σ)):RunN C ops (o::rest) K σ:=rn_any hg hd h hk
theorem rkJ {d:Nat} (hg:Guard ops σ o true:=by first|exact gd_n rfl rfl|exact gd_t rfl rfl rfl rfl|exact gd_t rfl rfl rfl (by assumption)) (hd':o.dst=some d:=by rfl) (hd:dOk C o.dst=true:=by rfl) (h:LOp C o σ e ro:=by exact lopJ) (hro:∀ x,ro x=true→okObj ops W i x=true:=by first|exact fun _=>ro_none|exact ro_one rfl|exact ro_one (by kernel_rfl)|exact ro_kIn (by decide)) (hob:∀ p∈e.obj,(i,p.1)∈W:=by first|exact ob_none|exact ob_one (by decide)|decide) (hk:RunK C ops W (i+1) rest K (e.app (some d) σ)):RunK C ops W i (o::rest) K σ:=rk_wr hg hd' hd h hro hob hk
end steps
end Go.Aw
namespace Go.Aw
open Go Go.RowKit
set_option linter.unusedVariables false
set_option linter.unusedSimpArgs false
section ops
variable {C:Ctx} {o:Oper} {σ:St}
theorem lop_ix_bl {α:Type} {f:α→List PVal} {l:List α} {T e:TypeId} {x ix:Operand} {sz by_:Nat} {ke:TK} {sze be:Nat} {ob g n lo len ty:Nat} {k:IntKind} {i:Int}
  (ho:o.op=.indexAddr T x ix) (hT:TI C.P T (.slice e) sz by_) (he:TI C.P e ke sze be) (hx:σ.look x=.o (.osl ob g sze lo len)) (hm:σ.mem ob=(n,some (.buf ty sze (l.map f)))) (hn:n=g+1) (hi:σ.look ix=.p (.v (.int k i))) (hl:lo+len≤l.length) (h0:0≤i) (hb:i < len) (hd:dOk C o.dst=true) :
  LOp C o σ ⟨.o (.ptr ob g ((lo+i.toNat) * sze)),[]⟩ (fun y=>y == ob):=
 lop_val hd fun τ a w G hl' hm' h=>by
  subst hn
  obtain ⟨m,c,h1,h2,h3⟩:=look_of h ((hl' x (by simp [ho,Op.operands])).trans hx)
  have e2:=val_of h ((hl' ix (by simp [ho,Op.operands])).trans hi)
  obtain ⟨g',m',hg,hmm,hes,hmax,hrl,hh⟩:=h.mem ob _ _ (by rw [hm' ob (by simp)];exact hm)
  obtain rfl:g=g':=by omega
  rw [h1] at hmm;obtain rfl:=Option.some.inj hmm
  rw [List.length_map] at hrl
  rcases hh with ⟨h4,h5,_⟩ | ⟨b,arr,h4,h5,h6,h7,h8⟩
  ·simp only at h5 hrl;omega
  ·simp only at h4;subst h4
   obtain ⟨d,hdd,hk⟩:=hT.undd
   have:d=.slice e:=by cases d<;>simp [TK.of] at hk;rw [hk]
   subst this
   refine ⟨.pointer (some ⟨b,(lo+i.toNat) * sze,none⟩),?_,b,c,h1,rfl⟩
   have hb':0≤i∧i < (len:Int):=⟨h0,hb⟩
   simp [execOp,ho,h3,e2,Instr.indexAt,asIntOf,run_underlying hdd,hb',he.run_sizeOf,add_addr,Nat.add_mul]
theorem lop_ld_bk {α:Type} {f:α→List PVal} {l:List α} {T:TypeId} {x:Operand} {k:TK} {sz by_:Nat} {ob g n ty i:Nat} {row:List PVal} (ho:o.op=.load T x) (hT:TI C.P T k sz by_) (hx:σ.look x=.o (.ptr ob g (i * sz))) (hm:σ.mem ob=(n,some (.buf ty sz (l.map f)))) (hI:Inhabited α) (hn:n=g+1)
  (hk:k.agg=true) (hi:i < l.length) (hp:f (l.getD i default)=row) (hd:dOk C o.dst=true):LOp C o σ ⟨.a (row.map .p),[]⟩ (fun y=>y == ob):=
 lop_val hd fun τ a w G hl' hm' h=>by
  subst hn
  obtain ⟨b,c',h1,h2⟩:=look_of h ((hl' x (by simp [ho,Op.operands])).trans hx)
  obtain ⟨g',m',hg,hmm,hes,hmax,hrl,hh⟩:=h.mem ob _ _ (by rw [hm' ob (by simp)];exact hm)
  obtain rfl:g=g':=by omega
  rw [h1] at hmm;obtain rfl:=Option.some.inj hmm
  rw [List.length_map] at hrl
  rcases hh with ⟨h4,_⟩ | ⟨b',arr,h4,h5,h6,h7,h8⟩
  ·simp at h4
  ·simp only [Option.some.injEq] at h4;subst h4
   obtain ⟨hrow,hcell⟩:=h8 i row (by rw [map_get hi,hp])
   simp only at h7 hrl
   have hmul:i * sz+sz≤arr.size:=by
    rw [h7]
    calc i * sz+sz=(i+1) * sz:=by rw [Nat.add_mul,Nat.one_mul]
     _≤c' * sz:=Nat.mul_le_mul_right _ (by omega)
   have hrun:=run_loadVar (P:=C.P) hT (w:=w) (b:=b) (off:=i * sz) (arr:=arr.toList) (ty:=ty) (fr:=(0,0)) (by simpa using h6) (by simpa using hmul) (by simp [hk])
   simp only [hk,if_true] at hrun
   refine ⟨.agg ((arr.toList.drop (i * sz)).take sz).toArray,?_,(arr.toList.drop (i * sz)).take sz,rfl,?_⟩
   ·simp [execOp,ho,h2,Instr.loadAt,Instr.sureAddr,hrun]
   ·refine ⟨by simp;omega,fun j q v hq hv=>?_⟩
    rw [List.getElem?_map] at hq
    cases hpj:row[j]? with
    | none=>rw [hpj] at hq;cases hq
    | some p=>
     rw [hpj] at hq;simp at hq;subst hq
     obtain ⟨u,hu,hpu⟩:=hcell j p hpj
     have hj:j < sz:=by rw [← hrow];exact (List.getElem?_eq_some_iff.1 hpj).1
     have:u=v:=by
      rw [List.getElem?_take,if_pos hj,List.getElem?_drop] at hv
      have e:arr[i * sz+j]?=some v:=by simpa using hv
      rw [Nat.zero_add,e] at hu;exact (Option.some.inj hu).symm
     subst this;exact hpu
theorem lop_ld_bk2 {α:Type} {f:α→List PVal} {l:List α} {T:TypeId} {x:Operand} {k:TK} {sz by_:Nat} {ob g n ty i:Nat} {p0 p1:PVal} (ho:o.op=.load T x) (hT:TI C.P T k sz by_) (hx:σ.look x=.o (.ptr ob g (i * sz))) (hm:σ.mem ob=(n,some (.buf ty sz (l.map f)))) (hI:Inhabited α) (hn:n=g+1)
  (hk:k.agg=true) (hi:i < l.length) (hp:f (l.getD i default)=[p0,p1]) (hd:dOk C o.dst=true):LOp C o σ ⟨.a [.p p0,.p p1],[]⟩ (fun y=>y == ob):=lop_ld_bk ho hT hx hm hI hn hk hi hp hd
theorem lop_st_bk2 {α:Type} {f:α→List PVal} {l:List α} {v:α} {T:TypeId} {x y:Operand} {k:TK} {sz by_:Nat} {ob g n ty i:Nat} {p0 p1:PVal} (ho:o.op=.store T x y) (hT:TI C.P T k sz by_) (hdst:o.dst=none) (hx:σ.look x=.o (.ptr ob g (i * sz))) (hy:σ.look y=.a [.p p0,.p p1])
  (hm:σ.mem ob=(n,some (.buf ty sz (l.map f)))) (hs:2=sz) (hn:n=g+1) (hp:[p0,p1]=f v) (hi:i < l.length):LOp C o σ ⟨.un,[(ob,(n,some (.buf ty sz ((l.set i v).map f))))]⟩ (fun z=>z == ob):=by
 have:=lop_store_row (C:=C) (o:=o) (s:=.agg [.p p0,.p p1]) (row:=[p0,p1]) ho hdst hx hy rfl hs hm hn (by simpa using hi)
 rwa [hp,← List.map_set] at this
theorem lop_sl_ol {T e:TypeId} {x xl:Operand} {sz by_:Nat} {ke:TK} {sze be:Nat} {kl:IntKind} {lo:Int} {ob g len:Nat} (ho:o.op=.slice T x (some xl) none none) (hT:TI C.P T (.slice e) sz by_) (he:TI C.P e ke sze be) (hx:σ.look x=.o (.osl ob g sze 0 len)) (hh:σ.look xl=.p (.v (.int kl lo)))
  (h0:0≤lo) (h1:lo < len) (hm:∃ n ty rows,σ.mem ob=(n,some (.buf ty sze rows))∧n=g+1) (hd:dOk C o.dst=true):LOp C o σ ⟨.o (.osl ob g sze lo.toNat (len - lo.toNat)),[]⟩ (fun y=>y == ob):=
 lop_val hd fun τ a w G hl hm' h=>by
  obtain ⟨n,ty,rows,hmo,rfl⟩:=hm
  obtain ⟨m,c,p1,p2,p3⟩:=look_of h ((hl x (by simp [ho,Op.operands])).trans hx)
  have h2:=val_of h ((hl xl (by simp [ho,Op.operands])).trans hh)
  obtain ⟨g',m',hg,hmm,hes,hmax,hrl,hh'⟩:=h.mem ob _ _ (by rw [hm' ob (by simp)];exact hmo)
  obtain rfl:g=g':=by omega
  rw [p1] at hmm;obtain rfl:=Option.some.inj hmm
  obtain ⟨d,hdd,hkk⟩:=hT.undd
  have:d=.slice e:=by cases d<;>simp [TK.of] at hkk;rw [hkk]
  subst this
  refine ⟨.slice (m.map fun b=>⟨b,lo.toNat * sze,none⟩) (len - lo.toNat) (c - lo.toNat),?_,m,c,p1,by omega,rfl⟩
  have e1:(Instr.sliceBounds true len c (some (.int kl lo)) none none).run C.P w=.ok (lo.toNat,len,c) w:=by simp [Instr.sliceBounds,run_sb (y:=len) h0 (by omega)]
  simp only [Nat.sub_zero,Nat.zero_mul] at p3
  simp only [execOp,ho,Instr.sliceAt,Sem.run_bind,run_underlying hdd,Result.andThen_ok,Instr.slice,p3,h2,Option.map_none,Option.map_some,e1,he.run_sizeOf,Sem.run_pure]
  cases m with
  | none=>
   rcases hh' with ⟨_,h4,_⟩ | ⟨b,arr,h4,_⟩
   ·simp only at h4;simp [h4]
   ·cases h4
  | some b=>
   have hc:¬ c=lo.toNat:=by omega
   by_cases h5:lo.toNat * sze=0
   ·simp [Addr.add,hc,h5]
   ·simp [Addr.add,hc,h5]
theorem lop_clear {α:Type} {f:α→List PVal} {l:List α} {T e:TypeId} {x:Operand} {sz by_ es be:Nat} {ke:TK} {z:List Value} {ob g n ty lo len:Nat} (ho:o.op=.call ⟨.builtin .clear,#[x],#[T]⟩) (hT:TI C.P T (.slice e) sz by_) (he:TI C.P e ke es be) (hz:TZ C.P e z)
  (hx:σ.look x=.o (.osl ob g es lo len)) (hm:σ.mem ob=(n,some (.buf ty es (l.map f)))) (hn:n=g+1) (hzl:z.length=es) (h1:z.all (·.oneCell')=true) (hlo:lo≤l.length) (hd:dOk C o.dst=true) :
  LOp C o σ ⟨.tup [],[(ob,(n,some (.buf ty es ((l.take lo).map f))))]⟩ (fun y=>y == ob):=
 lop_same (by simp) hd hm fun τ a w G g0 m hl' hm' h hng hmm hh=>by
  subst hn
  obtain rfl:g=g0:=by omega
  obtain ⟨m1,c,q1,q2,q3⟩:=look_of h ((hl' x (by simp [ho,Op.operands,Call.operands])).trans hx)
  obtain ⟨hes,hmax,hrl2,hh⟩:=hh
  rw [q1] at hmm;obtain rfl:=Option.some.inj hmm
  rw [List.length_map] at hrl2
  simp only at hmax hrl2 hh
  obtain ⟨d,hdd,hkk⟩:=hT.undd
  have:d=.slice e:=by cases d<;>simp [TK.of] at hkk;rw [hkk]
  subst this
  obtain ⟨i,hi,his,hib⟩:=he.infoo
  have hzz:=hz.zero
  simp only [hi,Option.bind_some] at hzz
  have hlen':((l.take lo).map f).length≤c:=by simp;omega
  have htake:∀ {X:Wd} {arr:Array Value},RowsAt X arr 0 es (l.map f)→RowsAt X arr 0 es ((l.take lo).map f):=fun hr q r hq=>hr q r (by
   rw [List.map_take,List.getElem?_take] at hq
   split at hq
   ·exact hq
   ·cases hq)
  cases hz0:i.zero with
  | none=>simp [hz0] at hzz
  | some zv=>
   simp only [hz0,Option.map_some,Option.some.injEq] at hzz
   have hzs:zv.cells.size=es:=by rw [← hzl,← hzz];simp
   have hzv:(zeroValue e).run C.P w=.ok zv w:=by simp [zeroValue,typeInfo,hi,hz0]
   rcases hh with ⟨k1,k2,k3⟩ | ⟨b,arr,k1,k2,k3,k4,k5⟩
   ·subst k1
    refine ⟨.value (.tuple #[]),.tuple #[],w,?_,.inl rfl,rfl,.same,rfl,rfl,fun _ _ _=>rfl,⟨hes,hmax,hlen',.inl ⟨rfl,k2,k3⟩⟩,⟨[],rfl,.nil⟩⟩
    simp [execOp,ho,resolve,invoke,builtin,q3,Builtin.clear_,run_underlying hdd]
   ·subst k1
    by_cases h0:len=0
    ·subst h0
     refine ⟨.value (.tuple #[]),.tuple #[],w,?_,.inl rfl,rfl,.same,rfl,rfl,fun _ _ _=>rfl,⟨hes,hmax,hlen',.inr ⟨b,arr,rfl,k2,k3,k4,htake k5⟩⟩,⟨[],rfl,.nil⟩⟩
     simp [execOp,ho,resolve,invoke,builtin,q3,Builtin.clear_,run_underlying hdd]
    ·have hzl2:(Builtin.zeroCells zv.cells len).toList.length=len * es:=by simp [Builtin.zeroCells,hzs]
     have hone:∀ v∈(Builtin.zeroCells zv.cells len).toList,v.oneCell'=true:=fun v hv=>by
      simp only [Builtin.zeroCells,Array.toList_map,List.mem_map] at hv
      obtain ⟨j,hj,rfl⟩:=hv
      have hlt:j % zv.cells.size < zv.cells.size:=Nat.mod_lt _ (by omega)
      rw [getElem!_pos zv.cells _ hlt]
      exact List.all_eq_true.1 h1 _ (by rw [← hzz];exact Array.mem_toList_iff.2 (Array.getElem_mem hlt))
     have hmul:lo * es+len * es≤arr.size:=by
      rw [k4,← Nat.add_mul];exact Nat.mul_le_mul_right _ q2
     have hst:=run_storeCells_at (P:=C.P) b (lo * es) ty (Builtin.zeroCells zv.cells len).toList 0 arr w k3 (by rw [hzl2];exact hmul) hone
     rw [hzl2] at hst
     simp only [Nat.add_zero] at hst
     have hle:Wd.le ⟨w,G.S⟩ ⟨w.setRow b (arr.toList.take (lo * es)++(Builtin.zeroCells zv.cells len).toList++arr.toList.drop (lo * es+len * es)).toArray,G.S⟩:=fun k hk=>
      ⟨hk,setRow_other w b k _ fun e=>h.stab ob b (by rw [k2];simp) (e ▸ hk)⟩
     have k3':w.heap[b]?=some (.cells arr.toList.toArray ty (0,0)):=by simpa using k3
     refine ⟨.value (.tuple #[]),.tuple #[],w.setRow b (arr.toList.take (lo * es)++(Builtin.zeroCells zv.cells len).toList++arr.toList.drop (lo * es+len * es)).toArray,?_,.inl rfl,setRow_frame.1,setRow_frame.2.1,setRow_frame.2.2.1,setRow_frame.2.2.2,
      fun k _ hk=>setRow_other w b k _ fun e=>hk (by rw [k2,e];simp),⟨hes,hmax,hlen',.inr ⟨b,_,rfl,k2,setRow_heap w b _ _ ty _ k3',?_,?_⟩⟩,⟨[],rfl,.nil⟩⟩
     ·obtain ⟨len',rfl⟩:∃ len',len=len'+1:=⟨len - 1,by omega⟩
      simp only [execOp,ho,resolve,invoke,builtin,Sem.run_bind,Sem.run_pure,Result.andThen_ok,List.map_toArray,List.map_cons,List.map_nil,q3,Option.map_some]
      simp [Builtin.clear_,run_underlying hdd,hzv,hst]
     ·simp only [List.size_toArray,List.length_append,hzl2,List.length_take,List.length_drop,Array.length_toList]
      omega
     ·intro q r hq
      have hql:q < lo:=by
       have:=(List.getElem?_eq_some_iff.1 hq).1
       simp at this;omega
      obtain ⟨e1,e2⟩:=htake k5 q r hq
      refine ⟨e1,fun j p hp=>?_⟩
      obtain ⟨v,hv,hpv⟩:=e2 j p hp
      refine ⟨v,?_,p.mono hle hpv⟩
      have hj:j < es:=by rw [← e1];exact (List.getElem?_eq_some_iff.1 hp).1
      rw [← hv]
      have:q * es+es≤lo * es:=by
       calc q * es+es=(q+1) * es:=by rw [Nat.add_mul,Nat.one_mul]
        _≤lo * es:=Nat.mul_le_mul_right _ hql
      simp only [Nat.zero_add,List.getElem?_toArray]
      rw [List.append_assoc,List.getElem?_append_left (by simp;omega),List.getElem?_take,if_pos (by omega)];simp
end ops
theorem lop_sl_oh2 {C:Ctx} {o:Oper} {σ:St} {T e:TypeId} {x xh:Operand} {sz by_:Nat} {ke:TK} {sze be:Nat} {kh:IntKind} {hi:Int} {ob g es len:Nat} (ho:o.op=.slice T x none (some xh) none) (hT:TI C.P T (.slice e) sz by_) (he:TI C.P e ke sze be) (hx:σ.look x=.o (.osl ob g es 0 len)) (hh:σ.look xh=.p (.v (.int kh hi)))
  (h0:0≤hi) (h1:hi≤len) (hd:dOk C o.dst=true):LOp C o σ ⟨.o (.osl ob g es 0 hi.toNat),[]⟩ (fun _=>false):=lop_sl_oh ho hx hh h0 h1 hd
theorem lopQ {C:Ctx} {o:Oper} {σ:St} {e:Eff} {ro:Nat→Bool} (h:LOp C o σ e ro:=by
  first
   | (apply gLoad;(focus rfl);first|(apply lop_ld_bk2;(focus rfl);(focus exact inferInstance);(focus rfl);(focus rfl);(focus rfl);(focus rfl);(focus omega);(focus rfl);(focus rfl);(focus exact inferInstance))|(apply lop_ld_bk3;(focus rfl);(focus exact inferInstance);(focus rfl);(focus rfl);(focus rfl);(focus rfl);(focus omega);(focus rfl);(focus rfl);(focus exact inferInstance)))
   | (apply gSlice;(focus rfl);first|(apply lop_sl_ol;(focus rfl);(focus exact inferInstance);(focus exact inferInstance);(focus rfl);(focus rfl);(focus omega);(focus omega);(focus exact ⟨_,_,_,rfl,rfl⟩);(focus rfl))|(apply lop_sl_oh2;(focus rfl);(focus exact inferInstance);(focus exact inferInstance);(focus rfl);(focus rfl);(focus omega);(focus omega);(focus rfl)))
   | exact lopJ
   | (apply gIndex;(focus rfl);apply lop_ix_bl;(focus rfl);(focus exact inferInstance);(focus exact inferInstance);(focus rfl);(focus rfl);(focus rfl);(focus rfl);(focus omega);(focus omega);(focus omega);(focus rfl))
   | fail):LOp C o σ e ro:=h
theorem stoQ {C:Ctx} {o:Oper} {σ:St} {e:Eff} {ro:Nat→Bool} (h:LOp C o σ e ro:=by
  first|(apply lop_st_bk2;(focus rfl);(focus exact inferInstance);(focus rfl);(focus rfl);(focus rfl);(focus rfl);(focus rfl);(focus rfl);(focus rfl);(focus omega))|(apply lop_clear;(focus rfl);(focus exact inferInstance);(focus exact inferInstance);(focus exact inferInstance);(focus rfl);(focus rfl);(focus rfl);(focus rfl);(focus rfl);(focus omega);(focus rfl))|exact stoB|fail):LOp C o σ e ro:=h
section steps
variable {C:Ctx} {ops:Array Oper} {o:Oper} {rest:List Oper} {K:St→Prop} {σ:St} {e:Eff} {ro:Nat→Bool} {W:List (Nat × Nat)} {i:Nat}
theorem rnQ {d:Nat} (hg:Guard ops σ o true:=by first|exact gd_n rfl rfl|exact gd_t rfl rfl rfl rfl|exact gd_t rfl rfl rfl (by assumption)) (hd:o.dst=some d:=by rfl) (h:LOp C o σ e ro:=by exact lopQ) (hk:RunN C ops rest K (e.app (some d) σ)):RunN C ops (o::rest) K σ:=rn_any hg hd h hk
theorem rkQ {d:Nat} (hg:Guard ops σ o true:=by first|exact gd_n rfl rfl|exact gd_t rfl rfl rfl rfl|exact gd_t rfl rfl rfl (by assumption)) (hd':o.dst=some d:=by rfl) (hd:dOk C o.dst=true:=by rfl) (h:LOp C o σ e ro:=by exact lopQ) (hro:∀ x,ro x=true→okObj ops W i x=true:=by first|exact fun _=>ro_none|exact ro_one rfl|exact ro_one (by kernel_rfl)|exact ro_kIn (by decide)) (hob:∀ p∈e.obj,(i,p.1)∈W:=by first|exact ob_none|exact ob_one (by decide)|decide) (hk:RunK C ops W (i+1) rest K (e.app (some d) σ)):RunK C ops W i (o::rest) K σ:=rk_wr hg hd' hd h hro hob hk
theorem rnSQ (hg:Guard ops σ o true:=by first|exact gd_n rfl rfl|exact gd_t rfl rfl rfl rfl|exact gd_t rfl rfl rfl (by assumption)) (hd:o.dst=none:=by rfl) (h:LOp C o σ e ro:=by exact stoQ) (hk:RunN C ops rest K (e.app none σ)):RunN C ops (o::rest) K σ:=rn_sto hg hd h hk
end steps
end Go.Aw
namespace Go.Aw
open Go Go.RowKit
set_option linter.unusedVariables false
set_option linter.unusedSimpArgs false
theorem RelG.remem {C:Ctx} {σ:St} {a:Act} {w:World} {G:Gh} (h:RelG C σ a w G) {o n:Nat} {mo mo':MO} (hm:σ.mem o=(n,some mo)) (hh:∀ m,mo.holds G.μ ⟨w,G.S⟩ m (G.φ o)→mo'.holds G.μ ⟨w,G.S⟩ m (G.φ o)):RelG C (σ.put o (n,some mo')) a w G:=
 { h with
  gens:=fun x=>by
   simp only [St.put]
   by_cases hx:x=o
   ·subst hx;rw [if_pos rfl,h.gens,hm]
   ·rw [if_neg hx];exact h.gens x
  mem:=fun x n' mo1 hx1=>by
   simp only [St.put] at hx1
   by_cases hx:x=o
   ·subst hx
    rw [if_pos rfl] at hx1
    simp only [Prod.mk.injEq,Option.some.injEq] at hx1
    obtain ⟨rfl,rfl⟩:=hx1
    obtain ⟨g,m,h1,h2,h3⟩:=h.mem x n mo hm
    exact ⟨g,m,h1,h2,hh m h3⟩
   ·rw [if_neg hx] at hx1;exact h.mem x n' mo1 hx1 }
theorem says_nil_box {C:Ctx} {σ:St} {p np tyb o n ty es:Nat} {mo:Option MO} (hp:σ.mem p=(np,some (.box tyb [.p (.v (.slice none 0 0))]))) (hm:σ.mem o=(n,mo)) (hne:p≠o) (hes:0 < es) :
  Says C σ ((σ.put o (n+1,some (.buf ty es []))).put p (np,some (.box tyb [.osl o n es 0 0]))):=by
 rintro a w ⟨G,h⟩
 have hlen:(G.μ o).length=n:=by have:=h.gens o;rw [hm] at this;exact this
 have hu:=h.upd (o:=o) (n':=n+1) (mo':=some (.buf ty es [])) (μo:=G.μ o++[(none,0)]) (fp':=[]) (w':=w) (fun g x hx=>by
  rw [List.getElem?_append_left (List.getElem?_eq_some_iff.1 hx).1];exact hx) (by simp [hlen]) rfl .same rfl (Nat.le_refl _) (fun _ _ _=>rfl) (fun b hb=>by simp at hb) (fun mo hmo=>by
   obtain rfl:=Option.some.inj hmo
   exact ⟨n,(none,0),rfl,by simp [hlen],hes,by simp [maxLen],Nat.le_refl _,.inl ⟨rfl,rfl,rfl⟩⟩)
 refine ⟨_,hu.remem (o:=p) (n:=np) (mo:=.box tyb [.p (.v (.slice none 0 0))]) (by simp [St.put,hne,hp]) ?_⟩
 rintro m ⟨b,arr,h1,h2,h3,h4⟩
 refine ⟨b,arr,h1,h2,h3,?_⟩
 obtain ⟨v,arr',rfl,hv,h5⟩:=h4.cons_inv
 obtain rfl:=h5.nil_inv
 obtain ⟨rfl,_⟩:=hv
 exact .cons ⟨none,0,by simp [hlen],by simp,by simp⟩ .nil
theorem finC_take {σ:St} {K:Nat→Bool} {o g es len n ty:Nat} {α:Type} {l m:List α} {f:α→List PVal} (hK:K o=false) (hm:σ.mem o=(n,some (.buf ty es (l.map f)))) (hn:n=g+1) (hl:len≤l.length) (he:m=l.take len):FinC σ K (.osl o g es 0 len) (.p (.sl es (m.map f) false)):=by
 subst hn he
 have:=FinC.osl (K:=K) (lo:=0) (len:=len) hK hm (by simpa using hl)
 rwa [List.drop_zero,← List.map_take] at this
section ops
variable {C:Ctx} {o:Oper} {σ:St}
theorem lop_ld_c8 {T:TypeId} {x:Operand} {k:TK} {sz by_:Nat} {ob g n:Nat} {ty:TypeId} {c0 c1 c2 c3 c4 c5 c6 c7 c8:AC} {cs:List AC} (ho:o.op=.load T x) (hT:TI C.P T k sz by_) (hx:σ.look x=.o (.ptr ob g 0)) (hm:σ.mem ob=(n,some (.box ty (c0::c1::c2::c3::c4::c5::c6::c7::c8::cs)))) (hn:n=g+1)
  (hk:k.agg=true) (hs:sz=8) (hd:dOk C o.dst=true):LOp C o σ ⟨.a [c0,c1,c2,c3,c4,c5,c6,c7],[]⟩ (fun y=>y == ob):=by
 subst hs;exact lop_load_box (o:=o) ho hx hm hn hk (by simp) hd
theorem lop_ld_bf {α:Type} {f:α→List PVal} {l:List α} {T:TypeId} {x:Operand} {k:TK} {sz by_:Nat} {ob g n ty i es q:Nat} {p:PVal} (ho:o.op=.load T x) (hT:TI C.P T k sz by_) (hx:σ.look x=.o (.ptr ob g (i * es+q))) (hm:σ.mem ob=(n,some (.buf ty es (l.map f)))) (hn:n=g+1)
  (hk:k.agg=false) (hs:sz=1) (hi:i < l.length) (hI:Inhabited α) (hp:(f (l.getD i default))[q]?=some p) (hd:dOk C o.dst=true):LOp C o σ ⟨.p p,[]⟩ (fun y=>y == ob):=
 lop_val hd fun τ a w G hl' hm' h=>by
  subst hn hs
  obtain ⟨b,c',h1,h2⟩:=look_of h ((hl' x (by simp [ho,Op.operands])).trans hx)
  obtain ⟨g',m',hg,hmm,hes,hmax,hrl,hh⟩:=h.mem ob _ _ (by rw [hm' ob (by simp)];exact hm)
  obtain rfl:g=g':=by omega
  rw [h1] at hmm;obtain rfl:=Option.some.inj hmm
  rcases hh with ⟨h4,_⟩ | ⟨b',arr,h4,h5,h6,h7,h8⟩
  ·simp at h4
  ·simp only [Option.some.injEq] at h4;subst h4
   obtain ⟨v,hv,hpv⟩:=(h8 i _ (map_get hi)).2 q p hp
   rw [Nat.zero_add] at hv
   have hlt:i * es+q < arr.size:=(Array.getElem?_eq_some_iff.1 hv).1
   have hrun:=run_loadVar (P:=C.P) hT (w:=w) (b:=b) (off:=i * es+q) (arr:=arr.toList) (ty:=ty) (fr:=(0,0)) (by simpa using h6) (by simp;omega) (by simp)
   simp only [hk,Bool.false_eq_true,if_false] at hrun
   refine ⟨v,?_,hpv⟩
   have:arr.toList.getD (i * es+q) undef=v:=by simp [List.getD_eq_getElem?_getD,hv]
   rw [this] at hrun
   simp [execOp,ho,h2,Instr.loadAt,Instr.sureAddr,hrun]
end ops
theorem lopY {C:Ctx} {o:Oper} {σ:St} {e:Eff} {ro:Nat→Bool} (h:LOp C o σ e ro:=by
  first
   | (apply gLoad;(focus rfl);apply lop_ld_c8;(focus rfl);(focus exact inferInstance);(focus rfl);(focus rfl);(focus rfl);(focus rfl);(focus rfl);(focus rfl))
   | exact lopQ
   | (apply gLoad;(focus rfl);first|(apply lop_ld_fbxa;(focus rfl);(focus exact inferInstance);(focus rfl);(focus rfl);(focus rfl);(focus rfl);(focus rfl);(focus rfl);(focus rfl))|(apply lop_ld_bf;(focus rfl);(focus exact inferInstance);(focus rfl);(focus rfl);(focus rfl);(focus rfl);(focus rfl);(focus omega);(focus rfl);(focus rfl);(focus exact inferInstance)))
   | fail):LOp C o σ e ro:=h
section steps
variable {C:Ctx} {ops:Array Oper} {o:Oper} {rest:List Oper} {K:St→Prop} {σ:St} {e:Eff} {ro:Nat→Bool} {W:List (Nat × Nat)} {i:Nat}
theorem rnY {d:Nat} (hg:Guard ops σ o true:=by first|exact gd_n rfl rfl|exact gd_t rfl rfl rfl rfl|exact gd_t rfl rfl rfl (by assumption)) (hd:o.dst=some d:=by rfl) (h:LOp C o σ e ro:=by exact lopY) (hk:RunN C ops rest K (e.app (some d) σ)):RunN C ops (o::rest) K σ:=rn_any hg hd h hk
end steps
end Go.Aw
namespace Go.Aw
open Go Go.RowKit
set_option linter.unusedVariables false
set_option linter.unusedSimpArgs false
theorem All2.turn {α β:Type} {R:α→β→Prop} {l:List α} {m:List β} (h:All2 R l m) {k:Nat} {a:α} (ha:∀ b,m[k]?=some b→R a b):All2 R (l.set k a) m:=
 ⟨by simpa using h.1,fun i x y hx hy=>by
  by_cases e:k=i
  ·subst e
   rw [List.getElem?_set] at hx
   rw [if_pos rfl] at hx
   split at hx
   ·obtain rfl:=Option.some.inj hx;exact ha _ hy
   ·cases hx
  ·rw [List.getElem?_set_ne e] at hx;exact h.2 i x y hx hy⟩
end Go.Aw
namespace Go.Aw
open Go Go.RowKit
set_option linter.unusedVariables false
set_option linter.unusedSimpArgs false
def allP:List AC→Option (List PVal)
 | []=>some []
 | .p x::l=>match allP l with
  | some m=>some (x::m)
  | none=>none
 | _::_=>none
theorem allP_eq:∀ {cs:List AC} {ps:List PVal},allP cs=some ps→cs=ps.map .p
 | [],ps,h=>by cases h;rfl
 | .p x::l,ps,h=>by
  rw [allP] at h
  split at h
  ·rename_i m hm
   cases h
   rw [allP_eq hm];rfl
  ·cases h
 | .ptr ..::_,_,h=>by cases h
 | .osl ..::_,_,h=>by cases h
 | .asl ..::_,_,h=>by cases h
 | .fn ..::_,_,h=>by cases h
 | .bm ..::_,_,h=>by cases h
section ops
variable {C:Ctx} {o:Oper} {σ:St}
theorem lop_mfa1 {f:FuncId} {x0:Operand} {o0 g0 n0 ty0:Nat} {cs0:List AC} {ps0:List PVal} (ho:o.op=.makeFunc (.func f) #[] #[x0]) (h0:σ.look x0=.o (.ptr o0 g0 0)) (hm0:σ.mem o0=(n0,some (.box ty0 cs0))) (hn0:n0=g0+1) (hc0:allP cs0=some ps0) (hd:dOk C o.dst=true) :
  LOp C o σ ⟨.p (.fnv f [.bx ps0 0]),[(o0,(g0+1,some (.abs (fbx ps0))))]⟩ (fun x=>[o0].any (· == x)):=lop_mf1 ho h0 hm0 hn0 (allP_eq hc0) hd
theorem bs_cons {σ:St} {k sze:Nat} {x:Operand} {cs:List AC} {q:List PVal} {l:List (Nat × Operand)} {ps:List (Nat × List PVal)} (hx:σ.look x=.a cs) (hc:allP cs=some q) (hl:q.length=sze) (h:All2 (fun (x:Nat × Operand) (p:Nat × List PVal)=>x.1=p.1∧p.2.length=sze∧∃ s,σ.look x.2=.s s∧s.cells=p.2.map .p) l ps) :
  All2 (fun (x:Nat × Operand) (p:Nat × List PVal)=>x.1=p.1∧p.2.length=sze∧∃ s,σ.look x.2=.s s∧s.cells=p.2.map .p) ((k,x)::l) ((k,q)::ps):=.cons ⟨rfl,hl,_,hx,allP_eq hc⟩ h
theorem lop_bsa {T e:TypeId} {n:Nat} {parts:Array (Nat × Operand)} {sz by_:Nat} {ke:TK} {sze be:Nat} {z:List Value} {ps:List (Nat × List PVal)} {rows:List (List PVal)} (ho:o.op=.buildSlice T n parts) (hT:TI C.P T (.slice e) sz by_) (he:TI C.P e ke sze be) (hz:TZ C.P e z)
  (hp:All2 (fun (x:Nat × Operand) (p:Nat × List PVal)=>x.1=p.1∧p.2.length=sze∧∃ s,σ.look x.2=.s s∧s.cells=p.2.map .p) parts.toList ps)
  (hi:ps.map (·.1)=List.range n) (hz0:0 < sze) (hsmall:n * sze≤2 ^ 24) (hr:rowsOf ps=rows) (hd:dOk C o.dst=true):LOp C o σ ⟨.p (.sl sze rows true),[]⟩ (fun _=>false):=by
 subst hr;exact lop_buildSlice ho hp hi hz0 hsmall hd
theorem lop_fieldAddr_bx {T:TypeId} {x:Operand} {f:Nat} {fs:List (Nat × TypeId)} {sz by_:Nat} [hT:TI C.P T (.struct fs) sz by_] {off ft:Nat} {kf:TK} {szf bf:Nat} [hf:TI C.P ft kf szf bf]
  {ps:List PVal} {of':Nat} (ho:o.op=.fieldAddr T x f) (hfs:fs[f]?=some (off,ft)) (hz:szf≠0) (hx:σ.look x=.p (.bx ps of')) (hd:dOk C o.dst=true):LOp C o σ ⟨.p (.bx ps (of'+off)),[]⟩ (fun _=>false):=
 lop_val hd fun τ a w G hl hm h=>by
  obtain ⟨b,cs,ty,h1,h2,h3,h4⟩:=look_of h ((hl x (by simp [ho,Op.operands])).trans hx)
  obtain ⟨d,hdd,hk⟩:=hT.undd
  cases d with
  | struct fields=>
   simp [TK.of] at hk
   subst hk
   have hfl:∃ fd,fields[f]?=some fd∧fd.offset=off∧fd.type=ft:=by
    rw [List.getElem?_map] at hfs
    cases hq:fields.toList[f]? with
    | none=>rw [hq] at hfs;cases hfs
    | some fd=>rw [hq] at hfs;simp at hfs;exact ⟨fd,by simpa using hq,hfs.1,hfs.2⟩
   obtain ⟨fd,hq,rfl,rfl⟩:=hfl
   refine ⟨.pointer (some ⟨b,of'+fd.offset,none⟩),?_,b,cs,ty,rfl,h2,h3,h4⟩
   simp [execOp,ho,h1,Instr.fieldAt,run_underlying hdd,hq,Instr.sureAddr,fieldPlace,hf.run_sizeOf,hz,add_addr]
  | _=>simp [TK.of] at hk
end ops
end Go.Aw
namespace Go.Aw
open Go Go.RowKit
set_option linter.unusedVariables false
set_option linter.unusedSimpArgs false
def PE (p q:PVal):Prop:=∀ X v,p.holds X v→q.holds X v
theorem PE.refl {p:PVal}:PE p p:=fun _ _ h=>h
theorem PE.ex {es:Nat} {rows:List (List PVal)} {ex:Bool}:PE (.sl es rows ex) (.sl es rows false):=fun X v ⟨base,cap,h1,h2,h3,h4,h5⟩=>⟨base,cap,h1,h2,h3,by simp,h5⟩
theorem PE.nil {es:Nat} {ex:Bool}:PE (.v (.slice none 0 0)) (.sl es [] ex):=fun X v h=>⟨none,0,h.1,Nat.le_refl _,by simp [maxLen],fun _=>rfl,rfl,rfl⟩
theorem All2.get' {α β:Type} {R:α→β→Prop} {l:List α} {m:List β} (h:All2 R l m) {i:Nat} {b:β} (hb:m[i]?=some b):∃ a,l[i]?=some a∧R a b:=by
 have hi:i < m.length:=(List.getElem?_eq_some_iff.1 hb).1
 have hl:i < l.length:=by rw [h.1];exact hi
 exact ⟨l[i],by simp [hl],h.2 i l[i] b (by simp [hl]) hb⟩
theorem PE.rows {es:Nat} {rows rows':List (List PVal)} {ex:Bool} (h:All2 (All2 PE) rows rows'):PE (.sl es rows ex) (.sl es rows' false):=by
 rintro X v ⟨base,cap,h1,h2,h3,h4,h5⟩
 refine ⟨base,cap,by rw [← h.1];exact h1,by rw [← h.1];exact h2,h3,by simp,?_⟩
 have hnil:rows=[]→rows'=[]:=fun e=>by
  have:=h.1
  rw [e] at this
  exact List.length_eq_zero_iff.1 this.symm
 cases base with
 | none=>exact ⟨hnil h5.1,h5.2⟩
 | some a=>
  rcases h5 with k | ⟨k1,k2,cs,ty,fr,k3,k4⟩
  ·exact .inl (hnil k)
  ·refine .inr ⟨k1,k2,cs,ty,fr,k3,fun i row' hr=>?_⟩
   obtain ⟨row,hrow,hpe⟩:=h.get' hr
   obtain ⟨q1,q2⟩:=k4 i row hrow
   refine ⟨by rw [← hpe.1];exact q1,fun j p' hp'=>?_⟩
   obtain ⟨p,hp,hpp⟩:=hpe.get' hp'
   obtain ⟨c,hc,hh⟩:=q2 j p hp
   exact ⟨c,hc,hpp X c hh⟩
theorem Ent1.rows {es:Nat} {rows rows':List (List PVal)} {ex:Bool} (h:All2 (All2 PE) rows rows'):Ent1 (.p (.sl es rows ex)) (.p (.sl es rows' false)):=fun μ X v hv=>PE.rows h X v hv
theorem Ent1.cells {cs ds:List PVal} (h:All2 PE cs ds):Ent1 (.a (cs.map .p)) (.a (ds.map .p)):=by
 rintro μ X v ⟨arr,rfl,ha⟩
 refine ⟨arr,rfl,by have:=ha.1;simp only [List.length_map] at this ⊢;rw [← h.1];exact this,fun i d c hd hc=>?_⟩
 rw [List.getElem?_map] at hd
 cases hq:ds[i]? with
 | none=>rw [hq] at hd;cases hd
 | some q=>
  rw [hq] at hd;simp only [Option.map_some,Option.some.injEq] at hd;subst hd
  obtain ⟨p,hp,hpe⟩:=h.get' hq
  exact hpe X c (ha.2 i (.p p) c (by rw [List.getElem?_map,hp];rfl) hc)
end Go.Aw
namespace Go.Aw
open Go Go.RowKit
set_option linter.unusedVariables false
set_option linter.unusedSimpArgs false
end Go.Aw
namespace Go.Aw
open Go Go.RowKit
set_option linter.unusedVariables false
set_option linter.unusedSimpArgs false
theorem stpR {X Y:Prop} (e:Y→X:=by
  first|exact rn_nil|exact rk_nil|exact aws_seq|exact aws_region|exact aws_skip|exact aws_label|exact aws_goto|exact aws_exit|exact aws_nil|exact aws_blk_s|exact aws_blk_r|exact aws_blk_c|exact blk_exit|exact blk_normal|exact blk_ret|fail) (h:Y):X:=e h
theorem says_bump {C:Ctx} {σ:St} {o n ty es:Nat} {mo:Option MO} (hm:σ.mem o=(n,mo)) (hes:0 < es):Says C σ (σ.put o (n+1,some (.buf ty es []))):=by
 rintro a w ⟨G,h⟩
 have hlen:(G.μ o).length=n:=by have:=h.gens o;rw [hm] at this;exact this
 exact ⟨_,h.upd (o:=o) (n':=n+1) (mo':=some (.buf ty es [])) (μo:=G.μ o++[(none,0)]) (fp':=[]) (w':=w) (fun g x hx=>by
  rw [List.getElem?_append_left (List.getElem?_eq_some_iff.1 hx).1];exact hx) (by simp [hlen]) rfl .same rfl (Nat.le_refl _) (fun _ _ _=>rfl) (fun b hb=>by simp at hb) (fun mo hmo=>by
   obtain rfl:=Option.some.inj hmo
   exact ⟨n,(none,0),rfl,by simp [hlen],hes,by simp [maxLen],Nat.le_refl _,.inl ⟨rfl,rfl,rfl⟩⟩)⟩
def pkA (ty:TypeId) (pre post:List PVal) (tyB:TypeId) (es:Nat) (rows:List (List PVal)):AObj where
 holds X b fp:=∃ (m:Option Nat) (c:Nat) (f2:List Nat) (u v:List Value),X.w.heap[b]?=some (.cells (u++.slice (m.map fun b=>⟨b,0,none⟩) rows.length c::v).toArray ty (0,0))∧fp=b::f2∧b ∉ f2∧
  All2 (fun p x=>p.holds X x) pre u∧All2 (fun p x=>p.holds X x) post v∧(MO.buf tyB es rows).holds Mu.none X (m,c) f2
 mono:=by
  rintro x y b fp hle hf ⟨m,c,f2,u,v,h1,rfl,h3,h4,h5,h6⟩
  exact ⟨m,c,f2,u,v,(hf b (by simp)).trans h1,rfl,h3,h4.mono fun p _ k=>p.mono hle k,h5.mono fun p _ k=>p.mono hle k,h6.mono (Mu.le.refl _) hle fun k hk=>hf k (by simp [hk])⟩
theorem all2_ac {μ:Mu} {X:Wd} {ps:List PVal} {vs:List Value}:All2 (AC.holds μ X) (ps.map .p) vs↔All2 (fun p x=>p.holds X x) ps vs:=by
 unfold All2
 simp only [List.length_map]
 refine and_congr Iff.rfl ⟨fun h i a b ha hb=>?_,fun h i a b ha hb=>?_⟩
 ·exact h i (.p a) b (by rw [List.getElem?_map,ha];rfl) hb
 ·rw [List.getElem?_map] at ha
  cases hx:ps[i]? with
  | none=>rw [hx] at ha;cases ha
  | some x=>rw [hx] at ha;simp at ha;subst ha;exact h i x b hx hb
theorem All2.split_inv {α β:Type} {R:α→β→Prop} {l l':List α} {m:List β} (h:All2 R (l++l') m):∃ u v,m=u++v∧All2 R l u∧All2 R l' v:=by
 refine ⟨m.take l.length,m.drop l.length,(List.take_append_drop _ _).symm,?_,?_⟩
 ·have:=h.take l.length
  rwa [List.take_left] at this
 ·have:=h.drop l.length
  rwa [List.drop_left] at this
theorem says_pack {C:Ctx} {σ:St} {p np ty o g n tyB es len:Nat} {pre post:List PVal} {cs:List AC} {rows:List (List PVal)} (hp:σ.mem p=(np,some (.box ty cs))) (hcs:cs=pre.map .p++.osl o g es 0 len::post.map .p) (hm:σ.mem o=(n,some (.buf tyB es rows))) (hn:n=g+1) (hl:len=rows.length) (hne:p≠o) :
  Says C σ ((σ.put o (n,none)).put p (np,some (.abs (pkA ty pre post tyB es rows)))):=by
 subst hn hl hcs
 rintro a w ⟨G,h⟩
 obtain ⟨gp,mp,e1,e2,b,arr,e3,e4,e5,e6⟩:=h.mem p _ _ hp
 obtain ⟨go,m,k1,k2,k3⟩:=h.mem o _ _ hm
 obtain rfl:g=go:=by omega
 obtain ⟨u,v,rfl,q1,q2⟩:=e6.split_inv
 obtain ⟨x,v,rfl,q3,q4⟩:=q2.cons_inv
 obtain ⟨m',c,r1,r2,r3⟩:=q3
 rw [r1] at k2;obtain rfl:=Option.some.inj k2
 simp only [Nat.zero_mul,Nat.sub_zero] at r3
 subst r3
 have hbo:b ∉ G.φ o:=fun hb=>h.apart p o b hne (by rw [e4];simp) hb
 have hfp:∀ {x k},k∈(if x=p then b::G.φ o else if x=o then [] else G.φ x)→(x=p∧(k∈G.φ p∨k∈G.φ o))∨(x≠p∧x≠o∧k∈G.φ x):=fun {x k} hk=>by
  by_cases hx:x=p
  ·rw [if_pos hx] at hk
   refine .inl ⟨hx,?_⟩
   rw [e4]
   simpa using hk
  ·rw [if_neg hx] at hk
   by_cases hxo:x=o
   ·rw [if_pos hxo] at hk;cases hk
   ·rw [if_neg hxo] at hk;exact .inr ⟨hx,hxo,hk⟩
 refine ⟨⟨G.μ,G.S,fun x=>if x=p then b::G.φ o else if x=o then [] else G.φ x⟩,?_⟩
 exact {
  size:=h.size
  defers:=fun d hd=>by
   obtain ⟨b',rfl,h1,h2,h3,h4,h5⟩:=h.defers d hd
   refine ⟨b',rfl,h1,h2,h3,h4,fun x hx=>?_⟩
   rcases hfp hx with ⟨_,k|k⟩ | ⟨_,_,k⟩
   ·exact h5 _ k
   ·exact h5 _ k
   ·exact h5 _ k
  dnod:=h.dnod
  mle:=h.mle
  env:=h.env
  gens:=fun x=>by
   by_cases hx:x=p
   ·subst hx;have:=h.gens x;rw [hp] at this;simpa [St.put] using this
   ·by_cases hxo:x=o
    ·subst hxo;have:=h.gens x;rw [hm] at this;simpa [St.put,hx] using this
    ·simpa [St.put,hx,hxo] using h.gens x
  mem:=fun x n mo hx=>by
   by_cases hxp:x=p
   ·subst hxp
    simp only [St.put,if_true,Prod.mk.injEq] at hx
    obtain ⟨rfl,hx⟩:=hx
    obtain rfl:=Option.some.inj hx
    refine ⟨gp,mp,e1,e2,b,e3,?_⟩
    refine ⟨m',c,G.φ o,u,v,e5,by simp,hbo,all2_ac.1 q1,all2_ac.1 q4,?_⟩
    exact k3
   ·by_cases hxo:x=o
    ·subst hxo
     simp [St.put,hxp] at hx
    ·simp only [St.put,hxp,hxo,if_false] at hx ⊢
     exact h.mem x n mo hx
  apart:=fun x y b' hxy hbx hby=>by
   rcases hfp hbx with ⟨rfl,k|k⟩ | ⟨k1,k2,k⟩<;>rcases hfp hby with ⟨rfl,q|q⟩ | ⟨q1,q2,q⟩
   ·exact hxy rfl
   ·exact hxy rfl
   ·exact h.apart _ _ b' hxy k q
   ·exact hxy rfl
   ·exact hxy rfl
   ·exact h.apart _ _ b' (Ne.symm q2) k q
   ·exact h.apart _ _ b' hxy k q
   ·exact h.apart _ _ b' k2 k q
   ·exact h.apart _ _ b' hxy k q
  stab:=fun x b' hb=>by
   rcases hfp hb with ⟨_,k|k⟩ | ⟨_,_,k⟩
   ·exact h.stab _ b' k
   ·exact h.stab _ b' k
   ·exact h.stab _ b' k
  own:=fun x b' hb=>by
   rcases hfp hb with ⟨_,k|k⟩ | ⟨_,_,k⟩
   ·exact h.own _ b' k
   ·exact h.own _ b' k
   ·exact h.own _ b' k
  sbd:=h.sbd
  ssub:=h.ssub
  fr:=h.fr }
theorem says_unpack {C:Ctx} {σ:St} {p np ty o n tyB es:Nat} {mo:Option MO} {pre post:List PVal} {cs:List AC} {rows:List (List PVal)} (hp:σ.mem p=(np,some (.abs (pkA ty pre post tyB es rows)))) (hm:σ.mem o=(n,mo)) (hcs:pre.map .p++.osl o n es 0 rows.length::post.map .p=cs) (hne:p≠o) :
  Says C σ ((σ.put o (n+1,some (.buf tyB es rows))).put p (np,some (.box ty cs))):=by
 subst hcs
 rintro a w ⟨G,h⟩
 obtain ⟨gp,mp,e1,e2,b,e3,m,c,f2,u,v,e4,e5,e6,e7,e8,e9⟩:=h.mem p _ _ hp
 have hlen:(G.μ o).length=n:=by have:=h.gens o;rw [hm] at this;exact this
 have hmu:G.μ.le (fun x=>if x=o then G.μ o++[(m,c)] else G.μ x):=fun x g y hy=>by
  by_cases hx:x=o
  ·subst hx
   simp only [if_true]
   rw [List.getElem?_append_left (List.getElem?_eq_some_iff.1 hy).1];exact hy
  ·simpa [hx] using hy
 have hfp:∀ {x k},k∈(if x=o then f2 else if x=p then [b] else G.φ x)→k∈G.φ (if x=o then p else x)∧(x=o→k∈f2)∧(x=p→k=b):=fun {x k} hk=>by
  by_cases hx:x=o
  ·rw [if_pos hx] at hk
   subst hx
   refine ⟨by rw [if_pos rfl,e5];simp [hk],fun _=>hk,fun e=>absurd e.symm hne⟩
  ·rw [if_neg hx] at hk
   rw [if_neg hx]
   by_cases hxp:x=p
   ·rw [if_pos hxp] at hk
    subst hxp
    have:k=b:=by simpa using hk
    exact ⟨by rw [e5,this];simp,fun e=>absurd e hx,fun _=>this⟩
   ·rw [if_neg hxp] at hk
    exact ⟨hk,fun e=>absurd e hx,fun e=>absurd e hxp⟩
 refine ⟨⟨fun x=>if x=o then G.μ o++[(m,c)] else G.μ x,G.S,fun x=>if x=o then f2 else if x=p then [b] else G.φ x⟩,?_⟩
 exact {
  size:=h.size
  defers:=fun d hd=>by
   obtain ⟨b',rfl,h1,h2,h3,h4,h5⟩:=h.defers d hd
   exact ⟨b',rfl,h1,h2,h3,h4,fun x hx=>h5 _ (hfp hx).1⟩
  dnod:=h.dnod
  mle:=h.mle.trans hmu
  env:=fun t=>(h.env t).mono hmu (Wd.le.refl _)
  gens:=fun x=>by
   by_cases hx:x=o
   ·subst hx;simp [St.put,hne.symm,hlen]
   ·by_cases hxp:x=p
    ·subst hxp;have:=h.gens x;rw [hp] at this;simpa [St.put,hx] using this
    ·simpa [St.put,hx,hxp] using h.gens x
  mem:=fun x n' mo' hx=>by
   by_cases hxp:x=p
   ·subst hxp
    simp only [St.put,if_true,Prod.mk.injEq] at hx
    obtain ⟨rfl,hx⟩:=hx
    obtain rfl:=Option.some.inj hx
    refine ⟨gp,mp,e1,by simpa [hne] using e2,b,_,e3,by simp [hne],e4,?_⟩
    refine (all2_ac.2 e7).append (.cons ?_ (all2_ac.2 e8))
    refine ⟨m,c,by simp [hlen],?_,by simp⟩
    obtain ⟨_,_,hrl,_⟩:=e9
    simpa using hrl
   ·by_cases hxo:x=o
    ·subst hxo
     simp only [St.put,hxp,if_false,if_true,Prod.mk.injEq] at hx
     obtain ⟨rfl,hx⟩:=hx
     obtain rfl:=Option.some.inj hx
     refine ⟨n,(m,c),rfl,by simp [hlen],?_⟩
     simp only [if_true]
     exact e9
    ·simp only [St.put,hxp,hxo,if_false] at hx
     obtain ⟨g,m2,hn,hm2,hh⟩:=h.mem x n' mo' hx
     refine ⟨g,m2,hn,by simpa [hxo] using hm2,?_⟩
     simp only [hxo,hxp,if_false]
     exact hh.mono hmu (Wd.le.refl _) fun k hk=>rfl
  apart:=fun x y b' hxy hbx hby=>by
   have h1:=hfp hbx
   have h2:=hfp hby
   by_cases hx:x=o<;>by_cases hy:y=o
   ·exact hxy (hx.trans hy.symm)
   ·by_cases hyp:y=p
    ·have a1:=h1.2.1 hx
     have a2:=h2.2.2 hyp
     subst a2;exact e6 a1
    ·have a1:=h1.1
     have a2:=h2.1
     rw [if_pos hx] at a1
     rw [if_neg hy] at a2
     exact h.apart p y b' (Ne.symm hyp) a1 a2
   ·by_cases hxp:x=p
    ·have a1:=h2.2.1 hy
     have a2:=h1.2.2 hxp
     subst a2;exact e6 a1
    ·have a1:=h1.1
     have a2:=h2.1
     rw [if_neg hx] at a1
     rw [if_pos hy] at a2
     exact h.apart x p b' hxp a1 a2
   ·have a1:=h1.1
    have a2:=h2.1
    rw [if_neg hx] at a1
    rw [if_neg hy] at a2
    exact h.apart x y b' hxy a1 a2
  stab:=fun x b' hb=>h.stab _ b' (hfp hb).1
  own:=fun x b' hb=>h.own _ b' (hfp hb).1
  sbd:=h.sbd
  ssub:=h.ssub
  fr:=h.fr }
end Go.Aw
namespace Go.Proofs.YtkgploeegbmofaaGreat.Wi
open Go Go.RowKit Go.Aw
set_option linter.unusedVariables false
set_option linter.unusedSimpArgs false
def beF:Nat→Nat→List Nat
 | 0,_=>[]
 | f+1,x=>if x=0 then [] else beF f (x / 256)++[x % 256]
def be (x:Nat):List Nat:=beF 8 x
def numB (x:Nat):List Nat:=(be x).length::be x
theorem beF_zero:∀ f,beF f 0=[]
 | 0=>rfl
 | _+1=>rfl
theorem beF_le:∀ f x,(beF f x).length≤f
 | 0,_=>Nat.le_refl _
 | f+1,x=>by
  rw [beF]
  split
  ·exact Nat.zero_le _
  ·have:=beF_le f (x / 256)
   rw [List.length_append,List.length_singleton];omega
theorem beF_step {f x:Nat} (h:x≠0):(beF (f+1) x).length=(beF f (x / 256)).length+1:=by
 rw [beF,if_neg h,List.length_append,List.length_singleton]
theorem beF_get:∀ (f x j:Nat),j < (beF f x).length→(beF f x).getD j default=x / 256 ^ ((beF f x).length - 1 - j) % 256
 | 0,x,j,h=>by exact absurd h (Nat.not_lt_zero _)
 | f+1,x,j,h=>by
  by_cases hx:x=0
  ·subst hx;rw [beF_zero] at h;exact absurd h (Nat.not_lt_zero _)
  ·have hl:=beF_step (f:=f) hx
   have ih:=beF_get f (x / 256) j
   rw [hl]
   rw [beF,if_neg hx] at h ⊢
   rw [List.length_append,List.length_singleton] at h
   by_cases hj:j < (beF f (x / 256)).length
   ·rw [List.getD_eq_getElem?_getD,List.getElem?_append_left hj,← List.getD_eq_getElem?_getD,ih hj,Nat.div_div_eq_div_mul]
    congr 2
    rw [show (beF f (x / 256)).length+1 - 1 - j=((beF f (x / 256)).length - 1 - j)+1 by omega,Nat.pow_succ,Nat.mul_comm]
   ·obtain rfl:j=(beF f (x / 256)).length:=by omega
    rw [List.getD_eq_getElem?_getD,List.getElem?_append_right (Nat.le_refl _),Nat.sub_self,show (beF f (x / 256)).length+1 - 1 - (beF f (x / 256)).length=0 by omega]
    simp
theorem be_take {x j:Nat} (h:j < (be x).length):(be x).take (j+1)=(be x).take j++[x / 256 ^ ((be x).length - 1 - j) % 256]:=by
 show (beF 8 x).take (j+1)=(beF 8 x).take j++[x / 256 ^ ((beF 8 x).length - 1 - j) % 256]
 have h':j < (beF 8 x).length:=h
 rw [← beF_get 8 x j h',List.take_succ_eq_append_getElem h',List.getD_eq_getElem?_getD,List.getElem?_eq_getElem h'];rfl
theorem pow8 (i:Nat):2 ^ (8 * i)=256 ^ i:=by rw [Nat.pow_mul]
/-! what bytes say -/
abbrev RS:=List Nat × Int
def takeS (n:Nat) (r:RS):List Nat × RS:=if r.2≠0 then ([],r) else if r.1.length < n then ([],(r.1,8)) else (r.1.take n,(r.1.drop n,0))
def mustS (is:Bool) (r:RS):RS:=if r.2=0∧is=false then (r.1,3) else r
def valB (l:List Nat):Nat:=l.foldl (fun n c=>n * 256+c) 0
def numR1 (r:RS):RS:=mustS (decide ((((takeS 1 r).1.getD (0:Int).toNat default:Nat):Int)≤8)) (takeS 1 r).2
def numL (r:RS):List Nat × RS:=takeS ((takeS 1 r).1.getD (0:Int).toNat default) (numR1 r)
def numR2 (r:RS):RS:=mustS (if (numL r).1.length=0 then true else decide (0 < (((numL r).1.getD (0:Int).toNat default:Nat):Int))) (numL r).2
def numS (r:RS):Nat × RS:=if (takeS 1 r).1.length=0 then (0,(takeS 1 r).2) else (if (numR2 r).2=0 then valB (numL r).1 else 0,numR2 r)
def smallS (most:Int) (r:RS):Int × RS:=
 (if (mustS (decide (0≤most)&&decide (((numS r).1:Int)≤most)) (numS r).2).2=0 then ((numS r).1:Int) else 0,mustS (decide (0≤most)&&decide (((numS r).1:Int)≤most)) (numS r).2)
theorem byte_in {a c M:Nat} (ha:a * 256+c < M) (hc:c < 256):((a * 256) % M % M||| c % M % M)=a * 256+c:=by
 have h1:c < M:=by omega
 have h2:a * 256 < M:=Nat.lt_of_le_of_lt (Nat.le_add_right _ c) ha
 rw [Nat.mod_eq_of_lt h1,Nat.mod_eq_of_lt h1,Nat.mod_eq_of_lt h2,Nat.mod_eq_of_lt h2]
 have:=Nat.shiftLeft_add_eq_or_of_lt (i:=8) (show c < 2 ^ 8 from hc) a
 rw [Nat.shiftLeft_eq] at this
 exact this.symm
end Go.Proofs.YtkgploeegbmofaaGreat.Wi
namespace Go.Proofs.YtkgploeegbmofaaGreat.Wi
open Go Go.RowKit Go.Aw
set_option linter.unusedVariables false
set_option linter.unusedSimpArgs false
set_option maxRecDepth 8000
set_option maxHeartbeats 4000000
abbrev bR (n:Nat):List PVal:=[.k .u8 (n:Int)]
abbrev wrA (bs:List Nat):AObj:=pkA 156 [] [] 5 1 (bs.map bR)
theorem lop_ap_byte {C:Ctx} {o:Oper} {σ:St} {T e:TypeId} {x y:Operand} {sz by_ es be:Nat} {ke:TK} {l:List Nat} {z:List Value} {ey:Bool} {ob g n len:Nat} {v:Nat} (ho:o.op=.call ⟨.builtin .append,#[x,y],#[T,T]⟩) (hT:TI C.P T (.slice e) sz by_) (he:TI C.P e ke es be) (hz:TZ C.P e z) (hx:σ.look x=.o (.osl ob g es 0 len)) (hm:σ.mem ob=(n,some (.buf e es (l.map bR)))) (hn:n=g+1) (hlr:len=l.length)
  (hy:σ.look y=.p (.sl es [[.k .u8 (v:Int)]] ey)) (hzl:z.length=es) (h63:l.length+1≤maxLen) (hby:(l.length+1) * be≤140737488355328) (hd:dOk C o.dst=true) :
  LOp C o σ ⟨.o (.osl ob n es 0 (l++[v]).length),[(ob,(n+1,some (.buf e es ((l++[v]).map bR))))]⟩ (fun q=>q == ob):=lop_ap_o1 (f:=bR) (v:=v) ho hT he hz hx hm hn hlr hy rfl hzl h63 hby hd
theorem lop_bs8 {C:Ctx} {o:Oper} {σ:St} {T e:TypeId} {x0:Operand} {sz by_ es be:Nat} {ke:TK} {z:List Value} {p0:PVal} (ho:o.op=.buildSlice T 1 #[(0,x0)]) (hT:TI C.P T (.slice e) sz by_) (he:TI C.P e ke es be) (hz:TZ C.P e z) (h0:σ.look x0=.p p0) (hes:es=1) (hd:dOk C o.dst=true) :
  LOp C o σ ⟨.p (.sl 1 [[p0]] true),[]⟩ (fun _=>false):=by
 subst hes
 exact lop_buildSlice (ps:=[(0,[p0])]) ho (.cons ⟨rfl,by simp,_,h0,by simp [SV.cells]⟩ .nil) rfl (by omega) (by omega) hd
theorem says_unpack' {C:Ctx} {σ:St} {p np ty o n tyB es len:Nat} {mo:Option MO} {pre post:List PVal} {cs:List AC} {rows:List (List PVal)} (hp:σ.mem p=(np,some (.abs (pkA ty pre post tyB es rows)))) (hm:σ.mem o=(n,mo)) (hl:rows.length=len) (hcs:pre.map .p++.osl o n es 0 len::post.map .p=cs) (hne:p≠o) :
  Says C σ ((σ.put o (n+1,some (.buf tyB es rows))).put p (np,some (.box ty cs))):=by
 subst hl;exact says_unpack hp hm hcs hne
namespace W2
theorem lopC {C:Ctx} {o:Oper} {σ:St} {e:Eff} {ro:Nat→Bool} (h:LOp C o σ e ro:=by
  first
   | exact lop_wadd' rfl rfl rfl (by with_reducible (first|rfl|exact lit_nat _|exact ofn_nat _)) (by with_reducible (first|rfl|exact lit_nat _|exact ofn_nat _)) rfl rfl
      | exact lop_wmul' rfl rfl rfl (by with_reducible (first|rfl|exact lit_nat _|exact ofn_nat _)) (by with_reducible (first|rfl|exact lit_nat _|exact ofn_nat _)) rfl rfl
      | exact lop_wsub' rfl rfl rfl (by with_reducible (first|rfl|exact lit_nat _|exact ofn_nat _)) (by with_reducible (first|rfl|exact lit_nat _|exact ofn_nat _)) rfl rfl
      | exact lop_wquo' rfl rfl rfl (by with_reducible (first|rfl|exact lit_nat _|exact ofn_nat _)) (by with_reducible (first|rfl|exact lit_nat _|exact ofn_nat _)) (by decide) rfl rfl
      | exact lop_wrem' rfl rfl rfl (by with_reducible (first|rfl|exact lit_nat _|exact ofn_nat _)) (by with_reducible (first|rfl|exact lit_nat _|exact ofn_nat _)) (by decide) rfl
      | exact lop_wand' rfl rfl rfl (by with_reducible (first|rfl|exact lit_nat _|exact ofn_nat _)) (by with_reducible (first|rfl|exact lit_nat _|exact ofn_nat _)) rfl rfl
      | exact lop_wor' rfl rfl rfl (by with_reducible (first|rfl|exact lit_nat _|exact ofn_nat _)) (by with_reducible (first|rfl|exact lit_nat _|exact ofn_nat _)) rfl rfl
      | exact lop_wxor' rfl rfl rfl (by with_reducible (first|rfl|exact lit_nat _|exact ofn_nat _)) (by with_reducible (first|rfl|exact lit_nat _|exact ofn_nat _)) rfl rfl
      | exact lop_wnot' rfl rfl (by with_reducible (first|rfl|exact lit_nat _|exact ofn_nat _)) rfl rfl
      | exact lop_wshr' rfl rfl (by with_reducible (first|rfl|exact lit_nat _|exact ofn_nat _)) rfl (by first|decide|omega) (by first|decide|(simp only [IntKind.bits];omega)) rfl
      | exact lop_wshl' rfl rfl (by with_reducible (first|rfl|exact lit_nat _|exact ofn_nat _)) rfl (by first|decide|omega) (by first|decide|(simp only [IntKind.bits];omega)) rfl rfl
      | (apply lop_wconv';(focus rfl);(focus exact inferInstance);(focus exact inferInstance);(focus rfl);(focus exact (by with_reducible (first|rfl|exact lit_nat _|exact ofn_nat _)));(focus rfl);(focus rfl))
   | (apply lop_bs8;(focus rfl);(focus exact inferInstance);(focus exact inferInstance);(focus exact inferInstance);(focus rfl);(focus rfl);(focus rfl))
   | (apply lop_ap_byte;(focus rfl);(focus exact inferInstance);(focus exact inferInstance);(focus exact inferInstance);(focus rfl);(focus rfl);(focus rfl);(focus rfl);(focus rfl);(focus rfl);(focus first|(simp only [maxLen,List.length_append,List.length_cons,List.length_nil,List.length_take,List.length_drop,List.length_map];omega)|omega);(focus first|(simp only [maxLen,List.length_append,List.length_cons,List.length_nil,List.length_take,List.length_drop,List.length_map];omega)|omega);(focus rfl))
   | (apply gField;(focus rfl);first|exact lop_fieldAddr_p rfl rfl (by decide) rfl rfl|exact lop_fieldAddr_bx rfl rfl (by decide) rfl rfl)
      | (apply lop_bsa;(focus rfl);(focus exact inferInstance);(focus exact inferInstance);(focus exact inferInstance);(focus repeat' (first|exact All2.nil|(apply bs_cons;(focus rfl);(focus rfl);(focus rfl))));(focus rfl);(focus decide);(focus first|decide|omega);(focus rfl);(focus rfl))
      | (apply lop_mfa1;(focus rfl);(focus rfl);(focus rfl);(focus rfl);(focus rfl);(focus rfl))
      | (apply lop_mfa2;(focus rfl);(focus rfl);(focus rfl);(focus rfl);(focus rfl);(focus rfl);(focus rfl);(focus rfl);(focus rfl);(focus decide);(focus rfl))
      | (apply lop_mfa3;(focus rfl);(focus rfl);(focus rfl);(focus rfl);(focus rfl);(focus rfl);(focus rfl);(focus rfl);(focus rfl);(focus rfl);(focus rfl);(focus rfl);(focus rfl);(focus decide);(focus decide);(focus decide);(focus rfl))
      | (apply gLoad;(focus rfl);apply lop_ld_bxp;(focus rfl);(focus exact inferInstance);(focus rfl);(focus rfl);(focus rfl);(focus rfl);(focus rfl))
   | exact lopJ
   | fail):LOp C o σ e ro:=h
section steps
variable {C:Ctx} {ops:Array Oper} {o:Oper} {rest:List Oper} {K:St→Prop} {σ:St} {e:Eff} {ro:Nat→Bool} {W:List (Nat × Nat)} {i:Nat}
theorem rnC {d:Nat} (hg:Guard ops σ o true:=by first|exact gd_n rfl rfl|exact gd_t rfl rfl rfl rfl|exact gd_t rfl rfl rfl (by assumption)) (hd:o.dst=some d:=by rfl) (h:LOp C o σ e ro:=by exact lopC) (hk:RunN C ops rest K (e.app (some d) σ)):RunN C ops (o::rest) K σ:=rn_any hg hd h hk
theorem rkC {d:Nat} (hg:Guard ops σ o true:=by first|exact gd_n rfl rfl|exact gd_t rfl rfl rfl rfl|exact gd_t rfl rfl rfl (by assumption)) (hd':o.dst=some d:=by rfl) (hd:dOk C o.dst=true:=by rfl) (h:LOp C o σ e ro:=by exact lopC) (hro:∀ x,ro x=true→okObj ops W i x=true:=by first|exact fun _=>ro_none|exact ro_one rfl|exact ro_k1 rfl|exact ro_one (by kernel_rfl)|exact ro_k1 (by kernel_rfl)|exact ro_kIn (by decide)) (hob:∀ p∈e.obj,(i,p.1)∈W:=by first|exact ob_none|exact ob_one (by decide)|decide) (hk:RunK C ops W (i+1) rest K (e.app (some d) σ)):RunK C ops W i (o::rest) K σ:=rk_wr hg hd' hd h hro hob hk
end steps
end W2
open W2
theorem num_o (n:Nat) (bs:List Nat) (x:Nat) (hx:x < 18446744073709551616) (h:bs.length≤1000000000):OCall Tryz.prog 87 [.o (.ptr 1000 n 0),.p (.k .u64 (x:Int))] (memL [(1000,(n+1,some (.abs (wrA bs))))]) (.tup []) (memL [(1000,(n+1,some (.abs (wrA (bs++numB x)))))]):=by
 refine ocall_of1 Tryz.func87 rfl (fun w0 F S0 M0=>?_)
 refine aws_says (says_unpack' (p:=1000) (o:=901) rfl rfl (List.length_map _) rfl (by decide)) ?_
 repeat' (first|refine jx5 ?_|refine jy0 ?_ ?_|exact spF|refine spQ fun hq hq'=>?_|refine spN fun hn=>?_|fail)
 refine aws_loopS [4,5,10,11,12,13,14,15] [] (fun (s:Nat × Nat)=>[(4,.p (.i s.1)),(5,.p (.k .u64 (s.2:Int)))]) (fun _=>[]) (fun s=>s.1≤8∧s.2 < 256 ^ (8 - s.1)∧(be x).length=s.1+(beF (8 - s.1) s.2).length) (fun s=>8 - s.1) (0,x) ⟨Nat.zero_le _,hx,by rw [Nat.zero_add];rfl⟩ (by exact knA) (by exact knA) ?_
 rintro ⟨k,m⟩ β γ ⟨hk,hm,hl⟩
 simp only at hk hm hl
 dsimp only
 by_cases h0:0 < m
 ·have d1:decide (0 < (m:Int))=true:=decide_eq_true (by omega)
  have hk8:k < 8:=by
   rcases Nat.lt_or_ge k 8 with q|q
   ·exact q
   ·rw [show 8 - k=0 by omega,Nat.pow_zero] at hm;omega
  as_aux_lemma=>
   repeat' (first|refine jx5 ?_|refine jy0 ?_ ?_|exact spF|refine spQ fun hq hq'=>?_|refine spN fun hn=>?_|fail)
   refine ⟨(k+1,m / 2 ^ (8:Int).toNat),_,by dsimp only;omega,⟨by dsimp only;omega,?_,?_⟩,.refl,by exact frA⟩
   ·show m / 256 < _
    rw [show 8 - k=(8 - (k+1))+1 by omega,Nat.pow_succ] at hm
    exact Nat.div_lt_of_lt_mul (by rw [Nat.mul_comm];exact hm)
   ·show _=k+1+(beF (8 - (k+1)) (m / 256)).length
    rw [hl,show 8 - k=(8 - (k+1))+1 by omega,beF_step (by omega)];omega
 ·have d1:decide (0 < (m:Int))=false:=decide_eq_false (by omega)
  obtain rfl:m=0:=by omega
  rw [beF_zero,List.length_nil,Nat.add_zero] at hl
  repeat' (first|refine jx5 ?_|refine jy0 ?_ ?_|exact spF|refine spQ fun hq hq'=>?_|refine spN fun hn=>?_|fail)
  refine aws_loopS [6,29,30,31,32,33,34,35,36,37,38,39,40,41,42,43,44,45,46] [1000,901] (fun (s:Nat × Int × List Nat)=>[(6,.p (.i s.2.1))])
   (fun s=>[(1000,(n+1,some (.box 156 [.osl 901 (s.1+1) 1 0 s.2.2.length]))),(901,(s.1+2,some (.buf 5 1 (s.2.2.map bR))))])
   (fun s=>s.1≤k∧s.2.1=(k:Int) - 1 - s.1∧s.2.2=bs++[k % md .u8]++(be x).take s.1) (fun s=>k - s.1) (0,(k:Int) - 1,bs++[k % md .u8]) ⟨Nat.zero_le _,by simp,by simp⟩ (by exact knA) (by exact knA) ?_
  rintro ⟨j,i,L⟩ β γ ⟨hj,hi,hL⟩
  dsimp only at hj hi hL ⊢
  have hll:L.length≤1000000100:=by
   rw [hL,List.length_append,List.length_append,List.length_singleton,List.length_take];omega
  by_cases hjk:j < k
  ·have d2:decide (0≤i)=true:=decide_eq_true (by omega)
   repeat' (first|refine jx5 ?_|refine jy0 ?_ ?_|exact spF|refine spQ fun hq hq'=>?_|refine spN fun hn=>?_|fail)
   refine aws_draws [(11,901),(14,1000)] mixed (by kernel_rfl) ?_
   repeat' (first|refine jx7 ?_|refine jy1 ?_ ?_|exact spF|refine spQ fun hq hq'=>?_|fail)
   as_aux_lemma=>
    repeat' (first|refine jx5 ?_|refine jy0 ?_ ?_|exact spF|refine spQ fun hq hq'=>?_|refine spN fun hn=>?_|fail)
    refine ⟨(j+1,i - 1,L++[x / 2 ^ (8 * i).toNat % md .u8]),_,by dsimp only;omega,⟨by dsimp only;omega,by dsimp only;omega,?_⟩,.refl,by exact frA⟩
    dsimp only
    rw [be_take (by omega),← List.append_assoc,hL,hl,show (8 * i).toNat=8 * (k - 1 - j) by omega,pow8];rfl
  ·have d2:decide (0≤i)=false:=decide_eq_false (by omega)
   obtain rfl:j=k:=by omega
   have e:bs++numB x=L:=by
    rw [hL,List.take_of_length_le (by omega),show j % md .u8=j from Nat.mod_eq_of_lt (by show j < 256;omega),numB,hl,List.append_assoc];rfl
   rw [e]
   refine aws_says (says_pack (p:=1000) (o:=901) (pre:=[]) (post:=[]) rfl rfl rfl (by omega) (by rw [List.length_map]) (by decide)) ?_
   as_aux_lemma=>
    repeat' (first|refine jx5 ?_|refine jy0 ?_ ?_|exact spF|refine spQ fun hq hq'=>?_|refine spN fun hn=>?_|fail)
    exact RetO.mk (res0 rfl rfl) ⟨.abs,trivial⟩
instance {c g n:Nat} {bs:List Nat} {x:Nat}:OC Tryz.prog 87 [.o (.ptr c g 0),.p (.k .u64 (x:Int))] [(c,(n,some (.abs (wrA bs))))] [] (n=g+1∧x < 18446744073709551616∧bs.length≤1000000000) (.tup []) [(c,(n,some (.abs (wrA (bs++numB x)))))]:=⟨fun h=>by obtain ⟨rfl,h1,h2⟩:=h;exact (num_o g bs x h1 h2).one c⟩
end Go.Proofs.YtkgploeegbmofaaGreat.Wi
