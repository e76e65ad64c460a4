/- THE ABSTRACT WALK, part 30: structs in slices. Nothing here speaks of a program. // THE ABSTRACT WALK, part 31: own slices of structs: a place, loaded, stored, cut, cleared; a copy that grows. Nothing here speaks of a program. // THE ABSTRACT WALK, part 32: a nil slice in a variable, as one that grows; parts of variables; a field of a struct in an own slice. Nothing here speaks of a program. // THE ABSTRACT WALK, part 33: slices in a variable's cells begin to grow, and come to rest. Nothing here speaks of a program. // THE ABSTRACT WALK, part 34: any many pure cells: captured variables, slices written out, parts of captured variables. Nothing here speaks of a program. // THE ABSTRACT WALK, part 35: less said of a slice's elements. Nothing here speaks of a program. // THE ABSTRACT WALK, part 36: three results; an own slice in a struct at hand comes to rest; nothing put to nothing. Nothing here speaks of a program. -/
import Derived.Test.YtpgppgehhclfoaaGreatOBA06
namespace Go.Aw
open Go Go.RowKit
set_option linter.unusedVariables false
set_option linter.unusedSimpArgs false
section ops
variable {C:Ctx} {o:Oper} {σ:St}
theorem lop_ld_at2 {T:TypeId} {x:Operand} {k:TK} {sz by_:Nat} {p0 p1:PVal} (ho:o.op=.load T x) (hT:TI C.P T k sz by_) (hx:σ.look x=.p (.at_ [p0,p1])) (hk:k.agg=true) (hs:sz=2) (hd:dOk C o.dst=true):LOp C o σ ⟨.a [.p p0,.p p1],[]⟩ (fun _=>false):=by
 subst hs;exact lop_load_at (o:=o) ho hx hk (by omega) (by simp) hd
theorem lop_ld_at3 {T:TypeId} {x:Operand} {k:TK} {sz by_:Nat} {p0 p1 p2:PVal} (ho:o.op=.load T x) (hT:TI C.P T k sz by_) (hx:σ.look x=.p (.at_ [p0,p1,p2])) (hk:k.agg=true) (hs:sz=3) (hd:dOk C o.dst=true):LOp C o σ ⟨.a [.p p0,.p p1,.p p2],[]⟩ (fun _=>false):=by
 subst hs;exact lop_load_at (o:=o) ho hx hk (by omega) (by simp) hd
theorem lop_ld_at4 {T:TypeId} {x:Operand} {k:TK} {sz by_:Nat} {p0 p1 p2 p3:PVal} (ho:o.op=.load T x) (hT:TI C.P T k sz by_) (hx:σ.look x=.p (.at_ [p0,p1,p2,p3])) (hk:k.agg=true) (hs:sz=4) (hd:dOk C o.dst=true):LOp C o σ ⟨.a [.p p0,.p p1,.p p2,.p p3],[]⟩ (fun _=>false):=by
 subst hs;exact lop_load_at (o:=o) ho hx hk (by omega) (by simp) hd
end ops
theorem lopJ {C:Ctx} {o:Oper} {σ:St} {e:Eff} {ro:Nat→Bool} (h:LOp C o σ e ro:=by
  first
   | (apply gLoad;(focus rfl);first|(apply lop_ld_at2;(focus rfl);(focus exact inferInstance);(focus rfl);(focus rfl);(focus rfl);(focus rfl))|(apply lop_ld_at4;(focus rfl);(focus exact inferInstance);(focus rfl);(focus rfl);(focus rfl);(focus rfl))|(apply lop_ld_at3;(focus rfl);(focus exact inferInstance);(focus rfl);(focus rfl);(focus rfl);(focus rfl)))
   | exact lopB
   | fail):LOp C o σ e ro:=h
section steps
variable {C:Ctx} {ops:Array Oper} {o:Oper} {rest:List Oper} {K:St→Prop} {σ:St} {e:Eff} {ro:Nat→Bool} {W:List (Nat × Nat)} {i:Nat}
theorem rnJ {d:Nat} (hg:Guard ops σ o true:=by first|exact gd_n rfl rfl|exact gd_t rfl rfl rfl rfl|exact gd_t rfl rfl rfl (by assumption)) (hd:o.dst=some d:=by rfl) (h:LOp C o σ e ro:=by exact lopJ) (hk:RunN C ops rest K (e.app (some d) σ)):RunN C ops (o::rest) K σ:=rn_any hg hd h hk
theorem rkJ {d:Nat} (hg:Guard ops σ o true:=by first|exact gd_n rfl rfl|exact gd_t rfl rfl rfl rfl|exact gd_t rfl rfl rfl (by assumption)) (hd':o.dst=some d:=by rfl) (hd:dOk C o.dst=true:=by rfl) (h:LOp C o σ e ro:=by exact lopJ) (hro:∀ x,ro x=true→okObj ops W i x=true:=by first|exact fun _=>ro_none|exact ro_one rfl|exact ro_one (by kernel_rfl)|exact ro_kIn (by decide)) (hob:∀ p∈e.obj,(i,p.1)∈W:=by first|exact ob_none|exact ob_one (by decide)|decide) (hk:RunK C ops W (i+1) rest K (e.app (some d) σ)):RunK C ops W i (o::rest) K σ:=rk_wr hg hd' hd h hro hob hk
end steps
end Go.Aw
namespace Go.Aw
open Go Go.RowKit
set_option linter.unusedVariables false
set_option linter.unusedSimpArgs false
section ops
variable {C:Ctx} {o:Oper} {σ:St}
theorem lop_ix_bl {α:Type} {f:α→List PVal} {l:List α} {T e:TypeId} {x ix:Operand} {sz by_:Nat} {ke:TK} {sze be:Nat} {ob g n lo len ty:Nat} {k:IntKind} {i:Int}
  (ho:o.op=.indexAddr T x ix) (hT:TI C.P T (.slice e) sz by_) (he:TI C.P e ke sze be) (hx:σ.look x=.o (.osl ob g sze lo len)) (hm:σ.mem ob=(n,some (.buf ty sze (l.map f)))) (hn:n=g+1) (hi:σ.look ix=.p (.v (.int k i))) (hl:lo+len≤l.length) (h0:0≤i) (hb:i < len) (hd:dOk C o.dst=true) :
  LOp C o σ ⟨.o (.ptr ob g ((lo+i.toNat) * sze)),[]⟩ (fun y=>y == ob):=
 lop_val hd fun τ a w G hl' hm' h=>by
  subst hn
  obtain ⟨m,c,h1,h2,h3⟩:=look_of h ((hl' x (by simp [ho,Op.operands])).trans hx)
  have e2:=val_of h ((hl' ix (by simp [ho,Op.operands])).trans hi)
  obtain ⟨g',m',hg,hmm,hes,hmax,hrl,hh⟩:=h.mem ob _ _ (by rw [hm' ob (by simp)];exact hm)
  obtain rfl:g=g':=by omega
  rw [h1] at hmm;obtain rfl:=Option.some.inj hmm
  rw [List.length_map] at hrl
  rcases hh with ⟨h4,h5,_⟩ | ⟨b,arr,h4,h5,h6,h7,h8⟩
  ·simp only at h5 hrl;omega
  ·simp only at h4;subst h4
   obtain ⟨d,hdd,hk⟩:=hT.undd
   have:d=.slice e:=by cases d<;>simp [TK.of] at hk;rw [hk]
   subst this
   refine ⟨.pointer (some ⟨b,(lo+i.toNat) * sze,none⟩),?_,b,c,h1,rfl⟩
   have hb':0≤i∧i < (len:Int):=⟨h0,hb⟩
   simp [execOp,ho,h3,e2,Instr.indexAt,asIntOf,run_underlying hdd,hb',he.run_sizeOf,add_addr,Nat.add_mul]
theorem lop_ld_bk {α:Type} {f:α→List PVal} {l:List α} {T:TypeId} {x:Operand} {k:TK} {sz by_:Nat} {ob g n ty i:Nat} {row:List PVal} (ho:o.op=.load T x) (hT:TI C.P T k sz by_) (hx:σ.look x=.o (.ptr ob g (i * sz))) (hm:σ.mem ob=(n,some (.buf ty sz (l.map f)))) (hI:Inhabited α) (hn:n=g+1)
  (hk:k.agg=true) (hi:i < l.length) (hp:f (l.getD i default)=row) (hd:dOk C o.dst=true):LOp C o σ ⟨.a (row.map .p),[]⟩ (fun y=>y == ob):=
 lop_val hd fun τ a w G hl' hm' h=>by
  subst hn
  obtain ⟨b,c',h1,h2⟩:=look_of h ((hl' x (by simp [ho,Op.operands])).trans hx)
  obtain ⟨g',m',hg,hmm,hes,hmax,hrl,hh⟩:=h.mem ob _ _ (by rw [hm' ob (by simp)];exact hm)
  obtain rfl:g=g':=by omega
  rw [h1] at hmm;obtain rfl:=Option.some.inj hmm
  rw [List.length_map] at hrl
  rcases hh with ⟨h4,_⟩ | ⟨b',arr,h4,h5,h6,h7,h8⟩
  ·simp at h4
  ·simp only [Option.some.injEq] at h4;subst h4
   obtain ⟨hrow,hcell⟩:=h8 i row (by rw [map_get hi,hp])
   simp only at h7 hrl
   have hmul:i * sz+sz≤arr.size:=by
    rw [h7]
    calc i * sz+sz=(i+1) * sz:=by rw [Nat.add_mul,Nat.one_mul]
     _≤c' * sz:=Nat.mul_le_mul_right _ (by omega)
   have hrun:=run_loadVar (P:=C.P) hT (w:=w) (b:=b) (off:=i * sz) (arr:=arr.toList) (ty:=ty) (fr:=(0,0)) (by simpa using h6) (by simpa using hmul) (by simp [hk])
   simp only [hk,if_true] at hrun
   refine ⟨.agg ((arr.toList.drop (i * sz)).take sz).toArray,?_,(arr.toList.drop (i * sz)).take sz,rfl,?_⟩
   ·simp [execOp,ho,h2,Instr.loadAt,Instr.sureAddr,hrun]
   ·refine ⟨by simp;omega,fun j q v hq hv=>?_⟩
    rw [List.getElem?_map] at hq
    cases hpj:row[j]? with
    | none=>rw [hpj] at hq;cases hq
    | some p=>
     rw [hpj] at hq;simp at hq;subst hq
     obtain ⟨u,hu,hpu⟩:=hcell j p hpj
     have hj:j < sz:=by rw [← hrow];exact (List.getElem?_eq_some_iff.1 hpj).1
     have:u=v:=by
      rw [List.getElem?_take,if_pos hj,List.getElem?_drop] at hv
      have e:arr[i * sz+j]?=some v:=by simpa using hv
      rw [Nat.zero_add,e] at hu;exact (Option.some.inj hu).symm
     subst this;exact hpu
theorem lop_ld_bk2 {α:Type} {f:α→List PVal} {l:List α} {T:TypeId} {x:Operand} {k:TK} {sz by_:Nat} {ob g n ty i:Nat} {p0 p1:PVal} (ho:o.op=.load T x) (hT:TI C.P T k sz by_) (hx:σ.look x=.o (.ptr ob g (i * sz))) (hm:σ.mem ob=(n,some (.buf ty sz (l.map f)))) (hI:Inhabited α) (hn:n=g+1)
  (hk:k.agg=true) (hi:i < l.length) (hp:f (l.getD i default)=[p0,p1]) (hd:dOk C o.dst=true):LOp C o σ ⟨.a [.p p0,.p p1],[]⟩ (fun y=>y == ob):=lop_ld_bk ho hT hx hm hI hn hk hi hp hd
theorem lop_ld_bk3 {α:Type} {f:α→List PVal} {l:List α} {T:TypeId} {x:Operand} {k:TK} {sz by_:Nat} {ob g n ty i:Nat} {p0 p1 p2:PVal} (ho:o.op=.load T x) (hT:TI C.P T k sz by_) (hx:σ.look x=.o (.ptr ob g (i * sz))) (hm:σ.mem ob=(n,some (.buf ty sz (l.map f)))) (hI:Inhabited α) (hn:n=g+1)
  (hk:k.agg=true) (hi:i < l.length) (hp:f (l.getD i default)=[p0,p1,p2]) (hd:dOk C o.dst=true):LOp C o σ ⟨.a [.p p0,.p p1,.p p2],[]⟩ (fun y=>y == ob):=lop_ld_bk ho hT hx hm hI hn hk hi hp hd
theorem lop_ld_bk4 {α:Type} {f:α→List PVal} {l:List α} {T:TypeId} {x:Operand} {k:TK} {sz by_:Nat} {ob g n ty i:Nat} {p0 p1 p2 p3:PVal} (ho:o.op=.load T x) (hT:TI C.P T k sz by_) (hx:σ.look x=.o (.ptr ob g (i * sz))) (hm:σ.mem ob=(n,some (.buf ty sz (l.map f)))) (hI:Inhabited α) (hn:n=g+1)
  (hk:k.agg=true) (hi:i < l.length) (hp:f (l.getD i default)=[p0,p1,p2,p3]) (hd:dOk C o.dst=true):LOp C o σ ⟨.a [.p p0,.p p1,.p p2,.p p3],[]⟩ (fun y=>y == ob):=lop_ld_bk ho hT hx hm hI hn hk hi hp hd
theorem lop_st_bk2 {α:Type} {f:α→List PVal} {l:List α} {v:α} {T:TypeId} {x y:Operand} {k:TK} {sz by_:Nat} {ob g n ty i:Nat} {p0 p1:PVal} (ho:o.op=.store T x y) (hT:TI C.P T k sz by_) (hdst:o.dst=none) (hx:σ.look x=.o (.ptr ob g (i * sz))) (hy:σ.look y=.a [.p p0,.p p1])
  (hm:σ.mem ob=(n,some (.buf ty sz (l.map f)))) (hs:2=sz) (hn:n=g+1) (hp:[p0,p1]=f v) (hi:i < l.length):LOp C o σ ⟨.un,[(ob,(n,some (.buf ty sz ((l.set i v).map f))))]⟩ (fun z=>z == ob):=by
 have:=lop_store_row (C:=C) (o:=o) (s:=.agg [.p p0,.p p1]) (row:=[p0,p1]) ho hdst hx hy rfl hs hm hn (by simpa using hi)
 rwa [hp,← List.map_set] at this
theorem lop_st_bk3 {α:Type} {f:α→List PVal} {l:List α} {v:α} {T:TypeId} {x y:Operand} {k:TK} {sz by_:Nat} {ob g n ty i:Nat} {p0 p1 p2:PVal} (ho:o.op=.store T x y) (hT:TI C.P T k sz by_) (hdst:o.dst=none) (hx:σ.look x=.o (.ptr ob g (i * sz))) (hy:σ.look y=.a [.p p0,.p p1,.p p2])
  (hm:σ.mem ob=(n,some (.buf ty sz (l.map f)))) (hs:3=sz) (hn:n=g+1) (hp:[p0,p1,p2]=f v) (hi:i < l.length):LOp C o σ ⟨.un,[(ob,(n,some (.buf ty sz ((l.set i v).map f))))]⟩ (fun z=>z == ob):=by
 have:=lop_store_row (C:=C) (o:=o) (s:=.agg [.p p0,.p p1,.p p2]) (row:=[p0,p1,p2]) ho hdst hx hy rfl hs hm hn (by simpa using hi)
 rwa [hp,← List.map_set] at this
theorem lop_st_bk4 {α:Type} {f:α→List PVal} {l:List α} {v:α} {T:TypeId} {x y:Operand} {k:TK} {sz by_:Nat} {ob g n ty i:Nat} {p0 p1 p2 p3:PVal} (ho:o.op=.store T x y) (hT:TI C.P T k sz by_) (hdst:o.dst=none) (hx:σ.look x=.o (.ptr ob g (i * sz))) (hy:σ.look y=.a [.p p0,.p p1,.p p2,.p p3])
  (hm:σ.mem ob=(n,some (.buf ty sz (l.map f)))) (hs:4=sz) (hn:n=g+1) (hp:[p0,p1,p2,p3]=f v) (hi:i < l.length):LOp C o σ ⟨.un,[(ob,(n,some (.buf ty sz ((l.set i v).map f))))]⟩ (fun z=>z == ob):=by
 have:=lop_store_row (C:=C) (o:=o) (s:=.agg [.p p0,.p p1,.p p2,.p p3]) (row:=[p0,p1,p2,p3]) ho hdst hx hy rfl hs hm hn (by simpa using hi)
 rwa [hp,← List.map_set] at this
theorem lop_sl_ol {T e:TypeId} {x xl:Operand} {sz by_:Nat} {ke:TK} {sze be:Nat} {kl:IntKind} {lo:Int} {ob g len:Nat} (ho:o.op=.slice T x (some xl) none none) (hT:TI C.P T (.slice e) sz by_) (he:TI C.P e ke sze be) (hx:σ.look x=.o (.osl ob g sze 0 len)) (hh:σ.look xl=.p (.v (.int kl lo)))
  (h0:0≤lo) (h1:lo < len) (hm:∃ n ty rows,σ.mem ob=(n,some (.buf ty sze rows))∧n=g+1) (hd:dOk C o.dst=true):LOp C o σ ⟨.o (.osl ob g sze lo.toNat (len - lo.toNat)),[]⟩ (fun y=>y == ob):=
 lop_val hd fun τ a w G hl hm' h=>by
  obtain ⟨n,ty,rows,hmo,rfl⟩:=hm
  obtain ⟨m,c,p1,p2,p3⟩:=look_of h ((hl x (by simp [ho,Op.operands])).trans hx)
  have h2:=val_of h ((hl xl (by simp [ho,Op.operands])).trans hh)
  obtain ⟨g',m',hg,hmm,hes,hmax,hrl,hh'⟩:=h.mem ob _ _ (by rw [hm' ob (by simp)];exact hmo)
  obtain rfl:g=g':=by omega
  rw [p1] at hmm;obtain rfl:=Option.some.inj hmm
  obtain ⟨d,hdd,hkk⟩:=hT.undd
  have:d=.slice e:=by cases d<;>simp [TK.of] at hkk;rw [hkk]
  subst this
  refine ⟨.slice (m.map fun b=>⟨b,lo.toNat * sze,none⟩) (len - lo.toNat) (c - lo.toNat),?_,m,c,p1,by omega,rfl⟩
  have e1:(Instr.sliceBounds true len c (some (.int kl lo)) none none).run C.P w=.ok (lo.toNat,len,c) w:=by simp [Instr.sliceBounds,run_sb (y:=len) h0 (by omega)]
  simp only [Nat.sub_zero,Nat.zero_mul] at p3
  simp only [execOp,ho,Instr.sliceAt,Sem.run_bind,run_underlying hdd,Result.andThen_ok,Instr.slice,p3,h2,Option.map_none,Option.map_some,e1,he.run_sizeOf,Sem.run_pure]
  cases m with
  | none=>
   rcases hh' with ⟨_,h4,_⟩ | ⟨b,arr,h4,_⟩
   ·simp only at h4;simp [h4]
   ·cases h4
  | some b=>
   have hc:¬ c=lo.toNat:=by omega
   by_cases h5:lo.toNat * sze=0
   ·simp [Addr.add,hc,h5]
   ·simp [Addr.add,hc,h5]
theorem lop_clear {α:Type} {f:α→List PVal} {l:List α} {T e:TypeId} {x:Operand} {sz by_ es be:Nat} {ke:TK} {z:List Value} {ob g n ty lo len:Nat} (ho:o.op=.call ⟨.builtin .clear,#[x],#[T]⟩) (hT:TI C.P T (.slice e) sz by_) (he:TI C.P e ke es be) (hz:TZ C.P e z)
  (hx:σ.look x=.o (.osl ob g es lo len)) (hm:σ.mem ob=(n,some (.buf ty es (l.map f)))) (hn:n=g+1) (hzl:z.length=es) (h1:z.all (·.oneCell')=true) (hlo:lo≤l.length) (hd:dOk C o.dst=true) :
  LOp C o σ ⟨.tup [],[(ob,(n,some (.buf ty es ((l.take lo).map f))))]⟩ (fun y=>y == ob):=
 lop_same (by simp) hd hm fun τ a w G g0 m hl' hm' h hng hmm hh=>by
  subst hn
  obtain rfl:g=g0:=by omega
  obtain ⟨m1,c,q1,q2,q3⟩:=look_of h ((hl' x (by simp [ho,Op.operands,Call.operands])).trans hx)
  obtain ⟨hes,hmax,hrl2,hh⟩:=hh
  rw [q1] at hmm;obtain rfl:=Option.some.inj hmm
  rw [List.length_map] at hrl2
  simp only at hmax hrl2 hh
  obtain ⟨d,hdd,hkk⟩:=hT.undd
  have:d=.slice e:=by cases d<;>simp [TK.of] at hkk;rw [hkk]
  subst this
  obtain ⟨i,hi,his,hib⟩:=he.infoo
  have hzz:=hz.zero
  simp only [hi,Option.bind_some] at hzz
  have hlen':((l.take lo).map f).length≤c:=by simp;omega
  have htake:∀ {X:Wd} {arr:Array Value},RowsAt X arr 0 es (l.map f)→RowsAt X arr 0 es ((l.take lo).map f):=fun hr q r hq=>hr q r (by
   rw [List.map_take,List.getElem?_take] at hq
   split at hq
   ·exact hq
   ·cases hq)
  cases hz0:i.zero with
  | none=>simp [hz0] at hzz
  | some zv=>
   simp only [hz0,Option.map_some,Option.some.injEq] at hzz
   have hzs:zv.cells.size=es:=by rw [← hzl,← hzz];simp
   have hzv:(zeroValue e).run C.P w=.ok zv w:=by simp [zeroValue,typeInfo,hi,hz0]
   rcases hh with ⟨k1,k2,k3⟩ | ⟨b,arr,k1,k2,k3,k4,k5⟩
   ·subst k1
    refine ⟨.value (.tuple #[]),.tuple #[],w,?_,.inl rfl,rfl,.same,rfl,rfl,fun _ _ _=>rfl,⟨hes,hmax,hlen',.inl ⟨rfl,k2,k3⟩⟩,⟨[],rfl,.nil⟩⟩
    simp [execOp,ho,resolve,invoke,builtin,q3,Builtin.clear_,run_underlying hdd]
   ·subst k1
    by_cases h0:len=0
    ·subst h0
     refine ⟨.value (.tuple #[]),.tuple #[],w,?_,.inl rfl,rfl,.same,rfl,rfl,fun _ _ _=>rfl,⟨hes,hmax,hlen',.inr ⟨b,arr,rfl,k2,k3,k4,htake k5⟩⟩,⟨[],rfl,.nil⟩⟩
     simp [execOp,ho,resolve,invoke,builtin,q3,Builtin.clear_,run_underlying hdd]
    ·have hzl2:(Builtin.zeroCells zv.cells len).toList.length=len * es:=by simp [Builtin.zeroCells,hzs]
     have hone:∀ v∈(Builtin.zeroCells zv.cells len).toList,v.oneCell'=true:=fun v hv=>by
      simp only [Builtin.zeroCells,Array.toList_map,List.mem_map] at hv
      obtain ⟨j,hj,rfl⟩:=hv
      have hlt:j % zv.cells.size < zv.cells.size:=Nat.mod_lt _ (by omega)
      rw [getElem!_pos zv.cells _ hlt]
      exact List.all_eq_true.1 h1 _ (by rw [← hzz];exact Array.mem_toList_iff.2 (Array.getElem_mem hlt))
     have hmul:lo * es+len * es≤arr.size:=by
      rw [k4,← Nat.add_mul];exact Nat.mul_le_mul_right _ q2
     have hst:=run_storeCells_at (P:=C.P) b (lo * es) ty (Builtin.zeroCells zv.cells len).toList 0 arr w k3 (by rw [hzl2];exact hmul) hone
     rw [hzl2] at hst
     simp only [Nat.add_zero] at hst
     have hle:Wd.le ⟨w,G.S⟩ ⟨w.setRow b (arr.toList.take (lo * es)++(Builtin.zeroCells zv.cells len).toList++arr.toList.drop (lo * es+len * es)).toArray,G.S⟩:=fun k hk=>
      ⟨hk,setRow_other w b k _ fun e=>h.stab ob b (by rw [k2];simp) (e ▸ hk)⟩
     have k3':w.heap[b]?=some (.cells arr.toList.toArray ty (0,0)):=by simpa using k3
     refine ⟨.value (.tuple #[]),.tuple #[],w.setRow b (arr.toList.take (lo * es)++(Builtin.zeroCells zv.cells len).toList++arr.toList.drop (lo * es+len * es)).toArray,?_,.inl rfl,setRow_frame.1,setRow_frame.2.1,setRow_frame.2.2.1,setRow_frame.2.2.2,
      fun k _ hk=>setRow_other w b k _ fun e=>hk (by rw [k2,e];simp),⟨hes,hmax,hlen',.inr ⟨b,_,rfl,k2,setRow_heap w b _ _ ty _ k3',?_,?_⟩⟩,⟨[],rfl,.nil⟩⟩
     ·obtain ⟨len',rfl⟩:∃ len',len=len'+1:=⟨len - 1,by omega⟩
      simp only [execOp,ho,resolve,invoke,builtin,Sem.run_bind,Sem.run_pure,Result.andThen_ok,List.map_toArray,List.map_cons,List.map_nil,q3,Option.map_some]
      simp [Builtin.clear_,run_underlying hdd,hzv,hst]
     ·simp only [List.size_toArray,List.length_append,hzl2,List.length_take,List.length_drop,Array.length_toList]
      omega
     ·intro q r hq
      have hql:q < lo:=by
       have:=(List.getElem?_eq_some_iff.1 hq).1
       simp at this;omega
      obtain ⟨e1,e2⟩:=htake k5 q r hq
      refine ⟨e1,fun j p hp=>?_⟩
      obtain ⟨v,hv,hpv⟩:=e2 j p hp
      refine ⟨v,?_,p.mono hle hpv⟩
      have hj:j < es:=by rw [← e1];exact (List.getElem?_eq_some_iff.1 hp).1
      rw [← hv]
      have:q * es+es≤lo * es:=by
       calc q * es+es=(q+1) * es:=by rw [Nat.add_mul,Nat.one_mul]
        _≤lo * es:=Nat.mul_le_mul_right _ hql
      simp only [Nat.zero_add,List.getElem?_toArray]
      rw [List.append_assoc,List.getElem?_append_left (by simp;omega),List.getElem?_take,if_pos (by omega)];simp
end ops
theorem lop_sl_oh2 {C:Ctx} {o:Oper} {σ:St} {T e:TypeId} {x xh:Operand} {sz by_:Nat} {ke:TK} {sze be:Nat} {kh:IntKind} {hi:Int} {ob g es len:Nat} (ho:o.op=.slice T x none (some xh) none) (hT:TI C.P T (.slice e) sz by_) (he:TI C.P e ke sze be) (hx:σ.look x=.o (.osl ob g es 0 len)) (hh:σ.look xh=.p (.v (.int kh hi)))
  (h0:0≤hi) (h1:hi≤len) (hd:dOk C o.dst=true):LOp C o σ ⟨.o (.osl ob g es 0 hi.toNat),[]⟩ (fun _=>false):=lop_sl_oh ho hx hh h0 h1 hd
theorem lopQ {C:Ctx} {o:Oper} {σ:St} {e:Eff} {ro:Nat→Bool} (h:LOp C o σ e ro:=by
  first
   | (apply gLoad;(focus rfl);first|(apply lop_ld_bk2;(focus rfl);(focus exact inferInstance);(focus rfl);(focus rfl);(focus rfl);(focus rfl);(focus omega);(focus rfl);(focus rfl);(focus exact inferInstance))|(apply lop_ld_bk4;(focus rfl);(focus exact inferInstance);(focus rfl);(focus rfl);(focus rfl);(focus rfl);(focus omega);(focus rfl);(focus rfl);(focus exact inferInstance))|(apply lop_ld_bk3;(focus rfl);(focus exact inferInstance);(focus rfl);(focus rfl);(focus rfl);(focus rfl);(focus omega);(focus rfl);(focus rfl);(focus exact inferInstance)))
   | (apply gSlice;(focus rfl);first|(apply lop_sl_ol;(focus rfl);(focus exact inferInstance);(focus exact inferInstance);(focus rfl);(focus rfl);(focus omega);(focus omega);(focus exact ⟨_,_,_,rfl,rfl⟩);(focus rfl))|(apply lop_sl_oh2;(focus rfl);(focus exact inferInstance);(focus exact inferInstance);(focus rfl);(focus rfl);(focus omega);(focus omega);(focus rfl)))
   | exact lopJ
   | (apply gIndex;(focus rfl);apply lop_ix_bl;(focus rfl);(focus exact inferInstance);(focus exact inferInstance);(focus rfl);(focus rfl);(focus rfl);(focus rfl);(focus omega);(focus omega);(focus omega);(focus rfl))
   | fail):LOp C o σ e ro:=h
theorem stoQ {C:Ctx} {o:Oper} {σ:St} {e:Eff} {ro:Nat→Bool} (h:LOp C o σ e ro:=by
  first|(apply lop_st_bk2;(focus rfl);(focus exact inferInstance);(focus rfl);(focus rfl);(focus rfl);(focus rfl);(focus rfl);(focus rfl);(focus rfl);(focus omega))|(apply lop_st_bk4;(focus rfl);(focus exact inferInstance);(focus rfl);(focus rfl);(focus rfl);(focus rfl);(focus rfl);(focus rfl);(focus rfl);(focus omega))|(apply lop_st_bk3;(focus rfl);(focus exact inferInstance);(focus rfl);(focus rfl);(focus rfl);(focus rfl);(focus rfl);(focus rfl);(focus rfl);(focus omega))|(apply lop_clear;(focus rfl);(focus exact inferInstance);(focus exact inferInstance);(focus exact inferInstance);(focus rfl);(focus rfl);(focus rfl);(focus rfl);(focus rfl);(focus omega);(focus rfl))|exact stoB|fail):LOp C o σ e ro:=h
section steps
variable {C:Ctx} {ops:Array Oper} {o:Oper} {rest:List Oper} {K:St→Prop} {σ:St} {e:Eff} {ro:Nat→Bool} {W:List (Nat × Nat)} {i:Nat}
theorem rnQ {d:Nat} (hg:Guard ops σ o true:=by first|exact gd_n rfl rfl|exact gd_t rfl rfl rfl rfl|exact gd_t rfl rfl rfl (by assumption)) (hd:o.dst=some d:=by rfl) (h:LOp C o σ e ro:=by exact lopQ) (hk:RunN C ops rest K (e.app (some d) σ)):RunN C ops (o::rest) K σ:=rn_any hg hd h hk
theorem rkQ {d:Nat} (hg:Guard ops σ o true:=by first|exact gd_n rfl rfl|exact gd_t rfl rfl rfl rfl|exact gd_t rfl rfl rfl (by assumption)) (hd':o.dst=some d:=by rfl) (hd:dOk C o.dst=true:=by rfl) (h:LOp C o σ e ro:=by exact lopQ) (hro:∀ x,ro x=true→okObj ops W i x=true:=by first|exact fun _=>ro_none|exact ro_one rfl|exact ro_one (by kernel_rfl)|exact ro_kIn (by decide)) (hob:∀ p∈e.obj,(i,p.1)∈W:=by first|exact ob_none|exact ob_one (by decide)|decide) (hk:RunK C ops W (i+1) rest K (e.app (some d) σ)):RunK C ops W i (o::rest) K σ:=rk_wr hg hd' hd h hro hob hk
theorem rnSQ (hg:Guard ops σ o true:=by first|exact gd_n rfl rfl|exact gd_t rfl rfl rfl rfl|exact gd_t rfl rfl rfl (by assumption)) (hd:o.dst=none:=by rfl) (h:LOp C o σ e ro:=by exact stoQ) (hk:RunN C ops rest K (e.app none σ)):RunN C ops (o::rest) K σ:=rn_sto hg hd h hk
theorem rkSQ (hg:Guard ops σ o true:=by first|exact gd_n rfl rfl|exact gd_t rfl rfl rfl rfl|exact gd_t rfl rfl rfl (by assumption)) (hd':o.dst=none:=by rfl) (h:LOp C o σ e ro:=by exact stoQ) (hro:∀ x,ro x=true→okObj ops W i x=true:=by first|exact fun _=>ro_none|exact ro_one rfl|exact ro_one (by kernel_rfl)|exact ro_kIn (by decide)) (hob:∀ p∈e.obj,(i,p.1)∈W:=by first|exact ob_none|exact ob_one (by decide)|decide) (hk:RunK C ops W (i+1) rest K (e.app none σ)):RunK C ops W i (o::rest) K σ:=rk_sto hg hd' h hro hob hk
end steps
end Go.Aw
namespace Go.Aw
open Go Go.RowKit
set_option linter.unusedVariables false
set_option linter.unusedSimpArgs false
theorem RelG.remem {C:Ctx} {σ:St} {a:Act} {w:World} {G:Gh} (h:RelG C σ a w G) {o n:Nat} {mo mo':MO} (hm:σ.mem o=(n,some mo)) (hh:∀ m,mo.holds G.μ ⟨w,G.S⟩ m (G.φ o)→mo'.holds G.μ ⟨w,G.S⟩ m (G.φ o)):RelG C (σ.put o (n,some mo')) a w G:=
 { h with
  gens:=fun x=>by
   simp only [St.put]
   by_cases hx:x=o
   ·subst hx;rw [if_pos rfl,h.gens,hm]
   ·rw [if_neg hx];exact h.gens x
  mem:=fun x n' mo1 hx1=>by
   simp only [St.put] at hx1
   by_cases hx:x=o
   ·subst hx
    rw [if_pos rfl] at hx1
    simp only [Prod.mk.injEq,Option.some.injEq] at hx1
    obtain ⟨rfl,rfl⟩:=hx1
    obtain ⟨g,m,h1,h2,h3⟩:=h.mem x n mo hm
    exact ⟨g,m,h1,h2,hh m h3⟩
   ·rw [if_neg hx] at hx1;exact h.mem x n' mo1 hx1 }
theorem says_nil_box {C:Ctx} {σ:St} {p np tyb o n ty es:Nat} {mo:Option MO} (hp:σ.mem p=(np,some (.box tyb [.p (.v (.slice none 0 0))]))) (hm:σ.mem o=(n,mo)) (hne:p≠o) (hes:0 < es) :
  Says C σ ((σ.put o (n+1,some (.buf ty es []))).put p (np,some (.box tyb [.osl o n es 0 0]))):=by
 rintro a w ⟨G,h⟩
 have hlen:(G.μ o).length=n:=by have:=h.gens o;rw [hm] at this;exact this
 have hu:=h.upd (o:=o) (n':=n+1) (mo':=some (.buf ty es [])) (μo:=G.μ o++[(none,0)]) (fp':=[]) (w':=w) (fun g x hx=>by
  rw [List.getElem?_append_left (List.getElem?_eq_some_iff.1 hx).1];exact hx) (by simp [hlen]) rfl .same rfl (Nat.le_refl _) (fun _ _ _=>rfl) (fun b hb=>by simp at hb) (fun mo hmo=>by
   obtain rfl:=Option.some.inj hmo
   exact ⟨n,(none,0),rfl,by simp [hlen],hes,by simp [maxLen],Nat.le_refl _,.inl ⟨rfl,rfl,rfl⟩⟩)
 refine ⟨_,hu.remem (o:=p) (n:=np) (mo:=.box tyb [.p (.v (.slice none 0 0))]) (by simp [St.put,hne,hp]) ?_⟩
 rintro m ⟨b,arr,h1,h2,h3,h4⟩
 refine ⟨b,arr,h1,h2,h3,?_⟩
 obtain ⟨v,arr',rfl,hv,h5⟩:=h4.cons_inv
 obtain rfl:=h5.nil_inv
 obtain ⟨rfl,_⟩:=hv
 exact .cons ⟨none,0,by simp [hlen],by simp,by simp⟩ .nil
theorem finC_take {σ:St} {K:Nat→Bool} {o g es len n ty:Nat} {α:Type} {l m:List α} {f:α→List PVal} (hK:K o=false) (hm:σ.mem o=(n,some (.buf ty es (l.map f)))) (hn:n=g+1) (hl:len≤l.length) (he:m=l.take len):FinC σ K (.osl o g es 0 len) (.p (.sl es (m.map f) false)):=by
 subst hn he
 have:=FinC.osl (K:=K) (lo:=0) (len:=len) hK hm (by simpa using hl)
 rwa [List.drop_zero,← List.map_take] at this
section ops
variable {C:Ctx} {o:Oper} {σ:St}
theorem lop_ld_c8 {T:TypeId} {x:Operand} {k:TK} {sz by_:Nat} {ob g n:Nat} {ty:TypeId} {c0 c1 c2 c3 c4 c5 c6 c7 c8:AC} {cs:List AC} (ho:o.op=.load T x) (hT:TI C.P T k sz by_) (hx:σ.look x=.o (.ptr ob g 0)) (hm:σ.mem ob=(n,some (.box ty (c0::c1::c2::c3::c4::c5::c6::c7::c8::cs)))) (hn:n=g+1)
  (hk:k.agg=true) (hs:sz=8) (hd:dOk C o.dst=true):LOp C o σ ⟨.a [c0,c1,c2,c3,c4,c5,c6,c7],[]⟩ (fun y=>y == ob):=by
 subst hs;exact lop_load_box (o:=o) ho hx hm hn hk (by simp) hd
theorem lop_ld_fbxa {T:TypeId} {x:Operand} {k:TK} {sz by_:Nat} {ob g n:Nat} {ps:List PVal} {ds:List AC} (ho:o.op=.load T x) (hT:TI C.P T k sz by_) (hx:σ.look x=.o (.ptr ob g 0)) (hm:σ.mem ob=(n,some (.abs (fbx ps)))) (hn:n=g+1) (hk:k.agg=true) (hs:ps.length=sz) (hds:ps.map .p=ds) (hd:dOk C o.dst=true):LOp C o σ ⟨.a ds,[]⟩ (fun y=>y == ob):=
 lop_val hd fun τ a w G hl hm' h=>by
  subst hn hds
  obtain ⟨b,c',h1,h2⟩:=look_of h ((hl x (by simp [ho,Op.operands])).trans hx)
  obtain ⟨g',m',hg,hmm,b',h4,_,h5,cs,ty,h6,h7⟩:=h.mem ob _ _ (by rw [hm' ob (by simp)];exact hm)
  obtain rfl:g=g':=by omega
  rw [h1] at hmm;obtain rfl:=Option.some.inj hmm
  simp only [Option.some.injEq] at h4;subst h4
  have hcs:cs.length=sz:=by rw [← h7.1];exact hs
  have hr:=run_loadVar (P:=C.P) hT (w:=w) (b:=b) (off:=0) (arr:=cs) (ty:=ty) (fr:=(0,0)) h6 (by omega) (by simp [hk])
  simp only [hk,if_true,List.drop_zero] at hr
  rw [List.take_of_length_le (by omega)] at hr
  refine ⟨.agg cs.toArray,by simp [execOp,ho,h2,Instr.loadAt,Instr.sureAddr,hr],cs,rfl,by simp [h7.1],fun i q v hq hv=>?_⟩
  rw [List.getElem?_map] at hq
  cases hp:ps[i]? with
  | none=>rw [hp] at hq;cases hq
  | some p=>
   rw [hp] at hq;simp at hq;subst hq
   exact h7.2 i p v hp hv
theorem lop_ld_bf {α:Type} {f:α→List PVal} {l:List α} {T:TypeId} {x:Operand} {k:TK} {sz by_:Nat} {ob g n ty i es q:Nat} {p:PVal} (ho:o.op=.load T x) (hT:TI C.P T k sz by_) (hx:σ.look x=.o (.ptr ob g (i * es+q))) (hm:σ.mem ob=(n,some (.buf ty es (l.map f)))) (hn:n=g+1)
  (hk:k.agg=false) (hs:sz=1) (hi:i < l.length) (hI:Inhabited α) (hp:(f (l.getD i default))[q]?=some p) (hd:dOk C o.dst=true):LOp C o σ ⟨.p p,[]⟩ (fun y=>y == ob):=
 lop_val hd fun τ a w G hl' hm' h=>by
  subst hn hs
  obtain ⟨b,c',h1,h2⟩:=look_of h ((hl' x (by simp [ho,Op.operands])).trans hx)
  obtain ⟨g',m',hg,hmm,hes,hmax,hrl,hh⟩:=h.mem ob _ _ (by rw [hm' ob (by simp)];exact hm)
  obtain rfl:g=g':=by omega
  rw [h1] at hmm;obtain rfl:=Option.some.inj hmm
  rcases hh with ⟨h4,_⟩ | ⟨b',arr,h4,h5,h6,h7,h8⟩
  ·simp at h4
  ·simp only [Option.some.injEq] at h4;subst h4
   obtain ⟨v,hv,hpv⟩:=(h8 i _ (map_get hi)).2 q p hp
   rw [Nat.zero_add] at hv
   have hlt:i * es+q < arr.size:=(Array.getElem?_eq_some_iff.1 hv).1
   have hrun:=run_loadVar (P:=C.P) hT (w:=w) (b:=b) (off:=i * es+q) (arr:=arr.toList) (ty:=ty) (fr:=(0,0)) (by simpa using h6) (by simp;omega) (by simp)
   simp only [hk,Bool.false_eq_true,if_false] at hrun
   refine ⟨v,?_,hpv⟩
   have:arr.toList.getD (i * es+q) undef=v:=by simp [List.getD_eq_getElem?_getD,hv]
   rw [this] at hrun
   simp [execOp,ho,h2,Instr.loadAt,Instr.sureAddr,hrun]
end ops
theorem lopY {C:Ctx} {o:Oper} {σ:St} {e:Eff} {ro:Nat→Bool} (h:LOp C o σ e ro:=by
  first
   | (apply gLoad;(focus rfl);apply lop_ld_c8;(focus rfl);(focus exact inferInstance);(focus rfl);(focus rfl);(focus rfl);(focus rfl);(focus rfl);(focus rfl))
   | exact lopQ
   | (apply gLoad;(focus rfl);first|(apply lop_ld_fbxa;(focus rfl);(focus exact inferInstance);(focus rfl);(focus rfl);(focus rfl);(focus rfl);(focus rfl);(focus rfl);(focus rfl))|(apply lop_ld_bf;(focus rfl);(focus exact inferInstance);(focus rfl);(focus rfl);(focus rfl);(focus rfl);(focus rfl);(focus omega);(focus rfl);(focus rfl);(focus exact inferInstance)))
   | fail):LOp C o σ e ro:=h
section steps
variable {C:Ctx} {ops:Array Oper} {o:Oper} {rest:List Oper} {K:St→Prop} {σ:St} {e:Eff} {ro:Nat→Bool} {W:List (Nat × Nat)} {i:Nat}
theorem rnY {d:Nat} (hg:Guard ops σ o true:=by first|exact gd_n rfl rfl|exact gd_t rfl rfl rfl rfl|exact gd_t rfl rfl rfl (by assumption)) (hd:o.dst=some d:=by rfl) (h:LOp C o σ e ro:=by exact lopY) (hk:RunN C ops rest K (e.app (some d) σ)):RunN C ops (o::rest) K σ:=rn_any hg hd h hk
theorem rkY {d:Nat} (hg:Guard ops σ o true:=by first|exact gd_n rfl rfl|exact gd_t rfl rfl rfl rfl|exact gd_t rfl rfl rfl (by assumption)) (hd':o.dst=some d:=by rfl) (hd:dOk C o.dst=true:=by rfl) (h:LOp C o σ e ro:=by exact lopY) (hro:∀ x,ro x=true→okObj ops W i x=true:=by first|exact fun _=>ro_none|exact ro_one rfl|exact ro_one (by kernel_rfl)|exact ro_kIn (by decide)) (hob:∀ p∈e.obj,(i,p.1)∈W:=by first|exact ob_none|exact ob_one (by decide)|decide) (hk:RunK C ops W (i+1) rest K (e.app (some d) σ)):RunK C ops W i (o::rest) K σ:=rk_wr hg hd' hd h hro hob hk
end steps
end Go.Aw
namespace Go.Aw
open Go Go.RowKit
set_option linter.unusedVariables false
set_option linter.unusedSimpArgs false
theorem All2.turn {α β:Type} {R:α→β→Prop} {l:List α} {m:List β} (h:All2 R l m) {k:Nat} {a:α} (ha:∀ b,m[k]?=some b→R a b):All2 R (l.set k a) m:=
 ⟨by simpa using h.1,fun i x y hx hy=>by
  by_cases e:k=i
  ·subst e
   rw [List.getElem?_set] at hx
   rw [if_pos rfl] at hx
   split at hx
   ·obtain rfl:=Option.some.inj hx;exact ha _ hy
   ·cases hx
  ·rw [List.getElem?_set_ne e] at hx;exact h.2 i x y hx hy⟩
theorem says_nil_at {C:Ctx} {σ:St} {p np tyb o n ty es k:Nat} {cs ds:List AC} {mo:Option MO} (hp:σ.mem p=(np,some (.box tyb cs))) (hk:cs[k]?=some (.p (.v (.slice none 0 0)))) (hds:cs.set k (.osl o n es 0 0)=ds) (hm:σ.mem o=(n,mo)) (hne:p≠o) (hes:0 < es) :
  Says C σ ((σ.put o (n+1,some (.buf ty es []))).put p (np,some (.box tyb ds))):=by
 subst hds
 rintro a w ⟨G,h⟩
 have hlen:(G.μ o).length=n:=by have:=h.gens o;rw [hm] at this;exact this
 have hu:=h.upd (o:=o) (n':=n+1) (mo':=some (.buf ty es [])) (μo:=G.μ o++[(none,0)]) (fp':=[]) (w':=w) (fun g x hx=>by
  rw [List.getElem?_append_left (List.getElem?_eq_some_iff.1 hx).1];exact hx) (by simp [hlen]) rfl .same rfl (Nat.le_refl _) (fun _ _ _=>rfl) (fun b hb=>by simp at hb) (fun mo hmo=>by
   obtain rfl:=Option.some.inj hmo
   exact ⟨n,(none,0),rfl,by simp [hlen],hes,by simp [maxLen],Nat.le_refl _,.inl ⟨rfl,rfl,rfl⟩⟩)
 refine ⟨_,hu.remem (o:=p) (n:=np) (mo:=.box tyb cs) (by simp [St.put,hne,hp]) ?_⟩
 rintro m ⟨b,arr,h1,h2,h3,h4⟩
 refine ⟨b,arr,h1,h2,h3,h4.turn fun v hv=>?_⟩
 obtain ⟨v',hv',hh⟩:=h4.get hk
 rw [hv] at hv';obtain rfl:=Option.some.inj hv'
 obtain ⟨rfl,_⟩:=hh
 exact ⟨none,0,by simp [hlen],by simp,by simp⟩
theorem says_frz_at {C:Ctx} {σ:St} {p np tyb o g n ty es k len:Nat} {cs ds:List AC} {rows:List (List PVal)} (hp:σ.mem p=(np,some (.box tyb cs))) (hk:cs[k]?=some (.osl o g es 0 len)) (hds:cs.set k (.p (.sl es rows false))=ds) (hm:σ.mem o=(n,some (.buf ty es rows))) (hn:n=g+1) (hl:len=rows.length) (hne:p≠o) :
  Says C σ ((σ.put o (n,some (.frz ty es rows))).put p (np,some (.box tyb ds))):=by
 subst hds hn hl
 rintro a w ⟨G,h⟩
 obtain ⟨g',m,hg,hmm,hes,hmax,hrl,hh⟩:=h.mem o _ _ hm
 obtain rfl:g=g':=by omega
 have hh':(m.1=none∧m.2=0)∨∃ b arr,m.1=some b∧(G.S b∨b∈G.φ o)∧w.heap[b]?=some (.cells arr ty (0,0))∧RowsAt ⟨w,fun b=>G.S b∨b∈G.φ o⟩ arr 0 es rows:=by
  rcases hh with ⟨h3,h4,_⟩ | ⟨b,arr,h3,h4,h5,h6,h7⟩
  ·exact .inl ⟨h3,h4⟩
  ·refine .inr ⟨b,arr,h3,.inr (by rw [h4];simp),h5,fun i row hr=>⟨(h7 i row hr).1,fun j p hp=>?_⟩⟩
   obtain ⟨c,hc,hp'⟩:=(h7 i row hr).2 j p hp
   exact ⟨c,hc,p.mono (x:=⟨w,G.S⟩) (fun b hb=>⟨.inl hb,rfl⟩) hp'⟩
 have hf:=h.freeze (o:=o) (mo':=some (.frz ty es rows)) hm (fun x hx=>by
  obtain rfl:=Option.some.inj hx
  exact ⟨g,m,rfl,hmm,rfl,hmax,hrl,hh'⟩)
 refine ⟨_,hf.remem (o:=p) (n:=np) (mo:=.box tyb cs) (by simp [St.put,hne,hp]) ?_⟩
 rintro q ⟨b,arr,h1,h2,h3,h4⟩
 refine ⟨b,arr,h1,h2,h3,h4.turn fun v hv=>?_⟩
 obtain ⟨v',hv',m',c,k1,k2,k3⟩:=h4.get hk
 rw [hv] at hv';obtain rfl:=Option.some.inj hv'
 have e:=k1.symm.trans hmm
 obtain rfl:=Option.some.inj e
 exact sl_of_buf (μ:=G.μ) (ty:=ty) hmax hrl hh' (by simpa using k3)
end Go.Aw
namespace Go.Aw
open Go Go.RowKit
set_option linter.unusedVariables false
set_option linter.unusedSimpArgs false
def allP:List AC→Option (List PVal)
 | []=>some []
 | .p x::l=>match allP l with
  | some m=>some (x::m)
  | none=>none
 | _::_=>none
theorem allP_eq:∀ {cs:List AC} {ps:List PVal},allP cs=some ps→cs=ps.map .p
 | [],ps,h=>by cases h;rfl
 | .p x::l,ps,h=>by
  rw [allP] at h
  split at h
  ·rename_i m hm
   cases h
   rw [allP_eq hm];rfl
  ·cases h
 | .ptr ..::_,_,h=>by cases h
 | .osl ..::_,_,h=>by cases h
 | .asl ..::_,_,h=>by cases h
 | .fn ..::_,_,h=>by cases h
 | .bm ..::_,_,h=>by cases h
section ops
variable {C:Ctx} {o:Oper} {σ:St}
theorem lop_mfa1 {f:FuncId} {x0:Operand} {o0 g0 n0 ty0:Nat} {cs0:List AC} {ps0:List PVal} (ho:o.op=.makeFunc (.func f) #[] #[x0]) (h0:σ.look x0=.o (.ptr o0 g0 0)) (hm0:σ.mem o0=(n0,some (.box ty0 cs0))) (hn0:n0=g0+1) (hc0:allP cs0=some ps0) (hd:dOk C o.dst=true) :
  LOp C o σ ⟨.p (.fnv f [.bx ps0 0]),[(o0,(g0+1,some (.abs (fbx ps0))))]⟩ (fun x=>[o0].any (· == x)):=lop_mf1 ho h0 hm0 hn0 (allP_eq hc0) hd
theorem lop_mfa2 {f:FuncId} {x0 x1:Operand} {o0 g0 n0 ty0 o1 g1 n1 ty1:Nat} {cs0 cs1:List AC} {ps0 ps1:List PVal} (ho:o.op=.makeFunc (.func f) #[] #[x0,x1]) (h0:σ.look x0=.o (.ptr o0 g0 0)) (hm0:σ.mem o0=(n0,some (.box ty0 cs0))) (hn0:n0=g0+1) (hc0:allP cs0=some ps0)
  (h1:σ.look x1=.o (.ptr o1 g1 0)) (hm1:σ.mem o1=(n1,some (.box ty1 cs1))) (hn1:n1=g1+1) (hc1:allP cs1=some ps1) (hne:o0≠o1) (hd:dOk C o.dst=true) :
  LOp C o σ ⟨.p (.fnv f [.bx ps0 0,.bx ps1 0]),[(o0,(g0+1,some (.abs (fbx ps0)))),(o1,(g1+1,some (.abs (fbx ps1))))]⟩ (fun x=>[o0,o1].any (· == x)):=lop_mf2 ho h0 hm0 hn0 (allP_eq hc0) h1 hm1 hn1 (allP_eq hc1) hne hd
theorem lop_mfa3 {f:FuncId} {x0 x1 x2:Operand} {o0 g0 n0 ty0 o1 g1 n1 ty1 o2 g2 n2 ty2:Nat} {cs0 cs1 cs2:List AC} {ps0 ps1 ps2:List PVal} (ho:o.op=.makeFunc (.func f) #[] #[x0,x1,x2]) (h0:σ.look x0=.o (.ptr o0 g0 0)) (hm0:σ.mem o0=(n0,some (.box ty0 cs0))) (hn0:n0=g0+1) (hc0:allP cs0=some ps0)
  (h1:σ.look x1=.o (.ptr o1 g1 0)) (hm1:σ.mem o1=(n1,some (.box ty1 cs1))) (hn1:n1=g1+1) (hc1:allP cs1=some ps1) (h2:σ.look x2=.o (.ptr o2 g2 0)) (hm2:σ.mem o2=(n2,some (.box ty2 cs2))) (hn2:n2=g2+1) (hc2:allP cs2=some ps2) (hne:o0≠o1) (hne2:o0≠o2) (hne3:o1≠o2) (hd:dOk C o.dst=true) :
  LOp C o σ ⟨.p (.fnv f [.bx ps0 0,.bx ps1 0,.bx ps2 0]),[(o0,(g0+1,some (.abs (fbx ps0)))),(o1,(g1+1,some (.abs (fbx ps1)))),(o2,(g2+1,some (.abs (fbx ps2))))]⟩ (fun x=>[o0,o1,o2].any (· == x)):=by
 subst hn0 hn1 hn2
 obtain rfl:=allP_eq hc0
 obtain rfl:=allP_eq hc1
 obtain rfl:=allP_eq hc2
 have:=lop_mf (C:=C) (o:=o) (σ:=σ) (l:=[⟨o0,g0,ty0,ps0⟩,⟨o1,g1,ty1,ps1⟩,⟨o2,g2,ty2,ps2⟩]) ho (.cons h0 (.cons h1 (.cons h2 .nil))) (by intro q hq;simp at hq;rcases hq with rfl|rfl|rfl;exact hm0;exact hm1;exact hm2) (by simp [hne,hne2,hne3]) hd
 simpa [Cap.upd] using this
theorem bs_cons {σ:St} {k sze:Nat} {x:Operand} {cs:List AC} {q:List PVal} {l:List (Nat × Operand)} {ps:List (Nat × List PVal)} (hx:σ.look x=.a cs) (hc:allP cs=some q) (hl:q.length=sze) (h:All2 (fun (x:Nat × Operand) (p:Nat × List PVal)=>x.1=p.1∧p.2.length=sze∧∃ s,σ.look x.2=.s s∧s.cells=p.2.map .p) l ps) :
  All2 (fun (x:Nat × Operand) (p:Nat × List PVal)=>x.1=p.1∧p.2.length=sze∧∃ s,σ.look x.2=.s s∧s.cells=p.2.map .p) ((k,x)::l) ((k,q)::ps):=.cons ⟨rfl,hl,_,hx,allP_eq hc⟩ h
theorem lop_bsa {T e:TypeId} {n:Nat} {parts:Array (Nat × Operand)} {sz by_:Nat} {ke:TK} {sze be:Nat} {z:List Value} {ps:List (Nat × List PVal)} {rows:List (List PVal)} (ho:o.op=.buildSlice T n parts) (hT:TI C.P T (.slice e) sz by_) (he:TI C.P e ke sze be) (hz:TZ C.P e z)
  (hp:All2 (fun (x:Nat × Operand) (p:Nat × List PVal)=>x.1=p.1∧p.2.length=sze∧∃ s,σ.look x.2=.s s∧s.cells=p.2.map .p) parts.toList ps)
  (hi:ps.map (·.1)=List.range n) (hz0:0 < sze) (hsmall:n * sze≤2 ^ 24) (hr:rowsOf ps=rows) (hd:dOk C o.dst=true):LOp C o σ ⟨.p (.sl sze rows true),[]⟩ (fun _=>false):=by
 subst hr;exact lop_buildSlice ho hp hi hz0 hsmall hd
theorem lop_fieldAddr_bx {T:TypeId} {x:Operand} {f:Nat} {fs:List (Nat × TypeId)} {sz by_:Nat} [hT:TI C.P T (.struct fs) sz by_] {off ft:Nat} {kf:TK} {szf bf:Nat} [hf:TI C.P ft kf szf bf]
  {ps:List PVal} {of':Nat} (ho:o.op=.fieldAddr T x f) (hfs:fs[f]?=some (off,ft)) (hz:szf≠0) (hx:σ.look x=.p (.bx ps of')) (hd:dOk C o.dst=true):LOp C o σ ⟨.p (.bx ps (of'+off)),[]⟩ (fun _=>false):=
 lop_val hd fun τ a w G hl hm h=>by
  obtain ⟨b,cs,ty,h1,h2,h3,h4⟩:=look_of h ((hl x (by simp [ho,Op.operands])).trans hx)
  obtain ⟨d,hdd,hk⟩:=hT.undd
  cases d with
  | struct fields=>
   simp [TK.of] at hk
   subst hk
   have hfl:∃ fd,fields[f]?=some fd∧fd.offset=off∧fd.type=ft:=by
    rw [List.getElem?_map] at hfs
    cases hq:fields.toList[f]? with
    | none=>rw [hq] at hfs;cases hfs
    | some fd=>rw [hq] at hfs;simp at hfs;exact ⟨fd,by simpa using hq,hfs.1,hfs.2⟩
   obtain ⟨fd,hq,rfl,rfl⟩:=hfl
   refine ⟨.pointer (some ⟨b,of'+fd.offset,none⟩),?_,b,cs,ty,rfl,h2,h3,h4⟩
   simp [execOp,ho,h1,Instr.fieldAt,run_underlying hdd,hq,Instr.sureAddr,fieldPlace,hf.run_sizeOf,hz,add_addr]
  | _=>simp [TK.of] at hk
theorem lop_ld_bxp {T:TypeId} {x:Operand} {k:TK} {sz by_:Nat} {ps:List PVal} {off:Nat} {ds:List AC} (ho:o.op=.load T x) (hT:TI C.P T k sz by_) (hx:σ.look x=.p (.bx ps off)) (hk:k.agg=true) (hl:Nat.ble (off+sz) ps.length=true) (hds:((ps.drop off).take sz).map .p=ds) (hd:dOk C o.dst=true) :
  LOp C o σ ⟨.a ds,[]⟩ (fun _=>false):=
 lop_val hd fun τ a w G hl' hm h=>by
  subst hds
  have hl:=Nat.le_of_ble_eq_true hl
  obtain ⟨b,cs,ty,h1,h2,h3,h4⟩:=look_of h ((hl' x (by simp [ho,Op.operands])).trans hx)
  have hcl:cs.length=ps.length:=by have:=h4.1;simpa using this.symm
  have hr:=run_loadVar (P:=C.P) hT (w:=w) (b:=b) (off:=off) (arr:=cs) (ty:=ty) (fr:=(0,0)) h3 (by omega) (by simp [hk])
  simp only [hk,if_true] at hr
  refine ⟨.agg ((cs.drop off).take sz).toArray,by simp [execOp,ho,h1,Instr.loadAt,Instr.sureAddr,hr],_,rfl,?_⟩
  have h5:=(h4.drop off).take sz
  refine ⟨by simp;omega,fun j c v hc hv=>?_⟩
  rw [List.getElem?_map] at hc
  cases hq:((ps.drop off).take sz)[j]? with
  | none=>rw [hq] at hc;cases hc
  | some q=>
   rw [hq] at hc;simp at hc;subst hc
   exact h5.2 j q v hq hv
end ops
end Go.Aw
namespace Go.Aw
open Go Go.RowKit
set_option linter.unusedVariables false
set_option linter.unusedSimpArgs false
def PE (p q:PVal):Prop:=∀ X v,p.holds X v→q.holds X v
theorem PE.refl {p:PVal}:PE p p:=fun _ _ h=>h
theorem PE.ex {es:Nat} {rows:List (List PVal)} {ex:Bool}:PE (.sl es rows ex) (.sl es rows false):=fun X v ⟨base,cap,h1,h2,h3,h4,h5⟩=>⟨base,cap,h1,h2,h3,by simp,h5⟩
theorem PE.nil {es:Nat} {ex:Bool}:PE (.v (.slice none 0 0)) (.sl es [] ex):=fun X v h=>⟨none,0,h.1,Nat.le_refl _,by simp [maxLen],fun _=>rfl,rfl,rfl⟩
theorem All2.get' {α β:Type} {R:α→β→Prop} {l:List α} {m:List β} (h:All2 R l m) {i:Nat} {b:β} (hb:m[i]?=some b):∃ a,l[i]?=some a∧R a b:=by
 have hi:i < m.length:=(List.getElem?_eq_some_iff.1 hb).1
 have hl:i < l.length:=by rw [h.1];exact hi
 exact ⟨l[i],by simp [hl],h.2 i l[i] b (by simp [hl]) hb⟩
theorem PE.rows {es:Nat} {rows rows':List (List PVal)} {ex:Bool} (h:All2 (All2 PE) rows rows'):PE (.sl es rows ex) (.sl es rows' false):=by
 rintro X v ⟨base,cap,h1,h2,h3,h4,h5⟩
 refine ⟨base,cap,by rw [← h.1];exact h1,by rw [← h.1];exact h2,h3,by simp,?_⟩
 have hnil:rows=[]→rows'=[]:=fun e=>by
  have:=h.1
  rw [e] at this
  exact List.length_eq_zero_iff.1 this.symm
 cases base with
 | none=>exact ⟨hnil h5.1,h5.2⟩
 | some a=>
  rcases h5 with k | ⟨k1,k2,cs,ty,fr,k3,k4⟩
  ·exact .inl (hnil k)
  ·refine .inr ⟨k1,k2,cs,ty,fr,k3,fun i row' hr=>?_⟩
   obtain ⟨row,hrow,hpe⟩:=h.get' hr
   obtain ⟨q1,q2⟩:=k4 i row hrow
   refine ⟨by rw [← hpe.1];exact q1,fun j p' hp'=>?_⟩
   obtain ⟨p,hp,hpp⟩:=hpe.get' hp'
   obtain ⟨c,hc,hh⟩:=q2 j p hp
   exact ⟨c,hc,hpp X c hh⟩
theorem Ent1.rows {es:Nat} {rows rows':List (List PVal)} {ex:Bool} (h:All2 (All2 PE) rows rows'):Ent1 (.p (.sl es rows ex)) (.p (.sl es rows' false)):=fun μ X v hv=>PE.rows h X v hv
theorem Ent1.cells {cs ds:List PVal} (h:All2 PE cs ds):Ent1 (.a (cs.map .p)) (.a (ds.map .p)):=by
 rintro μ X v ⟨arr,rfl,ha⟩
 refine ⟨arr,rfl,by have:=ha.1;simp only [List.length_map] at this ⊢;rw [← h.1];exact this,fun i d c hd hc=>?_⟩
 rw [List.getElem?_map] at hd
 cases hq:ds[i]? with
 | none=>rw [hq] at hd;cases hd
 | some q=>
  rw [hq] at hd;simp only [Option.map_some,Option.some.injEq] at hd;subst hd
  obtain ⟨p,hp,hpe⟩:=h.get' hq
  exact hpe X c (ha.2 i (.p p) c (by rw [List.getElem?_map,hp];rfl) hc)
end Go.Aw
namespace Go.Aw
open Go Go.RowKit
set_option linter.unusedVariables false
set_option linter.unusedSimpArgs false
end Go.Aw
