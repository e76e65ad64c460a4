/- messages: digests written and read, what is left -/
import Derived.Test.YtkgploeegbmofaaGreatOVA11
import Derived.Test.YtkgploeegbmofaaGreatOVA06
import Derived.Test.YtkgploeegbmofaaGreatOVA23
namespace Go.Aw
open Go Go.RowKit
theorem lop_cp_ar {C:Ctx} {o:Oper} {σ:St} {α:Type} {q:α→PVal} {m:List α} {T T2 e:TypeId} {x y:Operand} {sz by_ be:Nat} {ke:TK} {ob g k cap n ty:Nat} {cs:List AC} {ex:Bool} (ho:o.op=.call ⟨.builtin .copy,#[x,y],#[T,T2]⟩) (hT:TI C.P T (.slice e) sz by_) (he:TI C.P e ke 1 be)
  (hx:σ.look x=.o (.asl ob g 0 k cap)) (hm:σ.mem ob=(n,some (.box ty cs))) (hn:n=g+1) (hy:σ.look y=.p (.sl 1 (m.map fun a=>[q a]) ex)) (hcl:cs.length=k) (hml:m.length=k) (h0:0 < k) (hd:dOk C o.dst=true) :
  LOp C o σ ⟨.p (.v (.int .i64 k)),[(ob,(n,some (.box ty (m.map fun a=>.p (q a)))))]⟩ (fun z=>z == ob):=
 lop_same (by simp) hd hm fun τ a w G g' mm hl hm' h hng hmm hh=>by
  subst hn
  obtain rfl:g=g':=by omega
  obtain ⟨b,c,k1,k2⟩:=look_of h ((hl x (by simp [ho,Op.operands,Call.operands])).trans hx)
  rw [k1] at hmm;obtain rfl:=Option.some.inj hmm
  obtain ⟨b',arr,h4,h5,h6,h7⟩:=hh
  simp only [Option.some.injEq] at h4;subst h4
  obtain ⟨ad,sc,s1,s2⟩:=((src_sl (σ:=σ) (C:=C) hy).n (by rw [List.length_map];omega)) τ a w G (hl y (by simp [ho,Op.operands,Call.operands])) (fun _ hq=>by cases hq) h
  rw [List.length_map,hml] at s1
  obtain ⟨nvs,v1,v2,v3,v4⟩:=rows_vals (X:=⟨w,G.S⟩) (es:=1) (f:=fun j=>w.cell? (ad.add j)) _ s2
  rw [List.length_map,hml,Nat.mul_one] at v1
  obtain ⟨dd,hdd,hkk⟩:=hT.undd
  have:dd=.slice e:=by cases dd<;>simp [TK.of] at hkk;rw [hkk]
  subst this
  have hal:arr.length=k:=by rw [← h7.1,hcl]
  have hmin:Nat.min k k=k:=Nat.min_self k
  have hr:=run_copy_es (P:=C.P) w T T2 o.type e b 0 k cap ad k sc 1 arr.toArray ty nvs hdd he.run_sizeOf h6 (by rw [v1,hmin,Nat.mul_one]) v2 (by simp;omega) v3
  rw [hmin] at hr
  have e1:(arr.toArray.toList.take 0++nvs++arr.toArray.toList.drop (0+nvs.length))=nvs:=by
   rw [List.take_zero,List.nil_append,List.drop_of_length_le (by simp;omega),List.append_nil]
  rw [e1] at hr
  have hbS:¬ G.S b:=h.stab ob b (by rw [h5];simp)
  have hle:Wd.le ⟨w,G.S⟩ ⟨w.setRow b nvs.toArray,G.S⟩:=fun q hq=>⟨hq,setRow_other w b q _ fun e=>hbS (e ▸ hq)⟩
  refine ⟨_,goInt k,_,by
   simp only [execOp,ho,resolve,invoke,builtin,Sem.run_bind,Sem.run_pure,Result.andThen_ok,List.map_toArray,List.map_cons,List.map_nil,k2,s1,hr]
   rfl,.inl rfl,setRow_frame.1,setRow_frame.2.1,setRow_frame.2.2.1,setRow_frame.2.2.2,fun q _ hq=>setRow_other w b q _ fun e=>hq (by rw [h5,e];simp),?_,rfl,rfl⟩
  refine ⟨b,nvs,rfl,h5,setRow_heap w b _ _ ty _ h6,?_⟩
  refine ⟨by rw [List.length_map];omega,fun i p v hp hv=>?_⟩
  rw [List.getElem?_map] at hp
  cases hi:m[i]? with
  | none=>rw [hi] at hp;cases hp
  | some z=>
   rw [hi] at hp
   obtain rfl:=Option.some.inj hp
   obtain ⟨_,u2⟩:=v4 i [q z] (by rw [List.getElem?_map,hi];rfl)
   obtain ⟨cc,u3,u4⟩:=u2 0 (q z) rfl
   rw [Nat.mul_one,Nat.add_zero,hv] at u3
   obtain rfl:=Option.some.inj u3
   exact (q z).mono hle u4
theorem lop_ptr_nenil {C:Ctx} {o:Oper} {σ:St} {t e t':TypeId} {x y:Operand} {sz by_:Nat} {ob g off:Nat} (ho:o.op=.binOp .neq t x y t') (hT:TI C.P t (.ptr e) sz by_) (hx:σ.look x=.o (.ptr ob g off)) (hy:σ.look y=.p (.v (.pointer none))) (hd:dOk C o.dst=true) :
  LOp C o σ ⟨.p (.v (.bool true)),[]⟩ (fun _=>false):=
 lop_val hd fun τ a w G hl hm h=>by
  obtain ⟨b,c,h1,h2⟩:=look_of h ((hl x (by simp [ho,Op.operands])).trans hx)
  have e2:=val_of h ((hl y (by simp [ho,Op.operands])).trans hy)
  obtain ⟨d,hdd,hk⟩:=hT.undd
  have:d=.pointer e:=by cases d<;>simp [TK.of] at hk;rw [hk]
  subst this
  refine ⟨.bool true,?_,rfl,rfl⟩
  have hr:=run_neq_pointer_nil (P:=C.P) w t (some ⟨b,off,none⟩) (by simp [Program.pointee,hdd])
  simp only [execOp,ho,h2,e2,Sem.run_bind]
  have hg:(eqGuard .neq t x y (.pointer (some ⟨b,off,none⟩)) (.pointer none)).run C.P w=.ok () w:=by
   unfold eqGuard;simp [pure]
  rw [hg];simp [hr]
theorem lop_cp_0 {C:Ctx} {o:Oper} {σ:St} {T T2 e:TypeId} {x y:Operand} {sz by_ be:Nat} {ke:TK} {ob g k cap n ty:Nat} {cs:List AC} {ex:Bool} (ho:o.op=.call ⟨.builtin .copy,#[x,y],#[T,T2]⟩) (hT:TI C.P T (.slice e) sz by_) (he:TI C.P e ke 1 be)
  (hx:σ.look x=.o (.asl ob g 0 k cap)) (hm:σ.mem ob=(n,some (.box ty cs))) (hn:n=g+1) (hy:σ.look y=.p (.sl 1 [] ex)) (hcl:cs.length=k) (hd:dOk C o.dst=true) :
  LOp C o σ ⟨.p (.v (.int .i64 0)),[(ob,(n,some (.box ty cs)))]⟩ (fun z=>z == ob):=
 lop_same (by simp) hd hm fun τ a w G g' mm hl hm' h hng hmm hh=>by
  subst hn
  obtain rfl:g=g':=by omega
  obtain ⟨b,c,k1,k2⟩:=look_of h ((hl x (by simp [ho,Op.operands,Call.operands])).trans hx)
  rw [k1] at hmm;obtain rfl:=Option.some.inj hmm
  obtain ⟨b',arr,h4,h5,h6,h7⟩:=hh
  simp only [Option.some.injEq] at h4;subst h4
  obtain ⟨base,sc,s1,s2⟩:=(src_sl (σ:=σ) (C:=C) hy) τ a w G (hl y (by simp [ho,Op.operands,Call.operands])) (fun _ hq=>by cases hq) h
  obtain ⟨dd,hdd,hkk⟩:=hT.undd
  have:dd=.slice e:=by cases dd<;>simp [TK.of] at hkk;rw [hkk]
  subst this
  have hal:arr.length=k:=by rw [← h7.1,hcl]
  have hmin:Nat.min 0 k=0:=Nat.zero_min k
  have hst:=run_storeCells_at C.P b 0 ty [] 0 arr.toArray w h6 (by simp) (fun v hv=>by cases hv)
  simp only [Nat.add_zero,List.length_nil,List.take_zero,List.nil_append,List.drop_zero,List.append_nil] at hst
  have hr:(Builtin.copy_ #[T,T2] o.type #[.slice (some ⟨b,0,none⟩) k cap,.slice base 0 sc]).run C.P w=.ok (goInt 0) (w.setRow b arr.toArray):=by
   cases base with
   | none=>simp [Builtin.copy_,run_underlying hdd,Builtin.lenOf,Builtin.firstCells,he.run_sizeOf,hmin,hst]
   | some ad=>
    have hl0:=run_loadCells_list (P:=C.P) w ad [] (fun j v hj=>by cases hj)
    rw [List.length_nil] at hl0
    simp [Builtin.copy_,run_underlying hdd,Builtin.lenOf,Builtin.firstCells,he.run_sizeOf,hmin,hl0,hst]
  have hbS:¬ G.S b:=h.stab ob b (by rw [h5];simp)
  have hle:Wd.le ⟨w,G.S⟩ ⟨w.setRow b arr.toArray,G.S⟩:=fun q hq=>⟨hq,setRow_other w b q _ fun e=>hbS (e ▸ hq)⟩
  refine ⟨_,goInt 0,_,by
   simp only [execOp,ho,resolve,invoke,builtin,Sem.run_bind,Sem.run_pure,Result.andThen_ok,List.map_toArray,List.map_cons,List.map_nil,k2,s1,List.length_nil,hr]
   rfl,.inl rfl,setRow_frame.1,setRow_frame.2.1,setRow_frame.2.2.1,setRow_frame.2.2.2,fun q _ hq=>setRow_other w b q _ fun e=>hq (by rw [h5,e];simp),?_,rfl,rfl⟩
  exact ⟨b,arr,rfl,h5,setRow_heap w b _ _ ty _ h6,h7.mono fun _ _ k=>k.mono (Mu.le.refl _) hle⟩
end Go.Aw
namespace Go.Proofs.YtkgploeegbmofaaGreat.Wi
open Go Go.RowKit Go.Aw Go.Aw.Cart Go.Proofs.YtkgploeegbmofaaGreat.Ca
set_option linter.unusedVariables false
set_option linter.unusedSimpArgs false
set_option maxRecDepth 8000
set_option maxHeartbeats 4000000
abbrev bcD (n:Nat):AC:=.p (.k .u8 (n:Int))
abbrev dgV (d:List Nat):AV:=.a (d.map bcD)
def zeroD:List Nat:=List.replicate 32 0
def digS:RS→List Nat × RS:=bindS (takeS 32) fun l=>pureS (if l.length=32 then l else zeroD)
theorem par_dig:Par digS:=par_bind (par_take _) fun _=>par_pure _
theorem take_32 (r:RS):(takeS 32 r).1.length=32∨(takeS 32 r).1=[]:=by
 unfold takeS
 split
 ·exact .inr rfl
 ·split
  ·exact .inr rfl
  ·left;rw [List.length_take];omega
theorem dig_len (r:RS):(digS r).1.length=32:=by
 show (if (takeS 32 r).1.length=32 then (takeS 32 r).1 else zeroD).length=32
 split
 ·assumption
 ·rfl
theorem dig_ok (r:RS) (h:rdOk r):okB (digS r).1:=by
 show okB (if (takeS 32 r).1.length=32 then (takeS 32 r).1 else zeroD)
 split
 ·exact (take_byte (n:=32) h.1).1
 ·intro c hc;rw [List.eq_of_mem_replicate hc];decide
namespace T1
theorem lopC {C:Ctx} {o:Oper} {σ:St} {e:Eff} {ro:Nat→Bool} (h:LOp C o σ e ro:=by
  first|(apply lop_ptr_nenil;(focus rfl);(focus exact inferInstance);(focus rfl);(focus rfl);(focus rfl))|exact W9.lopC|exact lopB|fail):LOp C o σ e ro:=h
section steps
variable {C:Ctx} {ops:Array Oper} {o:Oper} {rest:List Oper} {K:St→Prop} {σ:St} {e:Eff} {ro:Nat→Bool} {W:List (Nat × Nat)} {i:Nat}
theorem rnC {d:Nat} (hg:Guard ops σ o true:=by first|exact gd_n rfl rfl|exact gd_t rfl rfl rfl rfl|exact gd_t rfl rfl rfl (by assumption)) (hd:o.dst=some d:=by rfl) (h:LOp C o σ e ro:=by exact lopC) (hk:RunN C ops rest K (e.app (some d) σ)):RunN C ops (o::rest) K σ:=rn_any hg hd h hk
theorem rkC {d:Nat} (hg:Guard ops σ o true:=by first|exact gd_n rfl rfl|exact gd_t rfl rfl rfl rfl|exact gd_t rfl rfl rfl (by assumption)) (hd':o.dst=some d:=by rfl) (hd:dOk C o.dst=true:=by rfl) (h:LOp C o σ e ro:=by exact lopC) (hro:∀ x,ro x=true→okObj ops W i x=true:=by first|exact fun _=>ro_none|exact ro_one rfl|exact ro_k1 rfl|exact ro_one (by kernel_rfl)|exact ro_k1 (by kernel_rfl)|exact ro_kIn (by decide)) (hob:∀ p∈e.obj,(i,p.1)∈W:=by first|exact ob_none|exact ob_one (by decide)|decide) (hk:RunK C ops W (i+1) rest K (e.app (some d) σ)):RunK C ops W i (o::rest) K σ:=rk_wr hg hd' hd h hro hob hk
end steps
end T1
open T1
theorem ro_2 {ops:Array Oper} {W:List (Nat × Nat)} {i a b:Nat} (h:okObj ops W i a=true) (k:okObj ops W i b=true):∀ x,(fun q:Nat=>q == a||q == b) x=true→okObj ops W i x=true:=fun x hx=>by
 rcases Bool.or_eq_true_iff.1 hx with q|q
 ·rw [beq_iff_eq.1 q];exact h
 ·rw [beq_iff_eq.1 q];exact k
theorem wdig_o (n:Nat) (bs d:List Nat) (hd:d.length=32) (h:bs.length≤900000000):OCall Tryz.prog 88 [.o (.ptr 1000 n 0),dgV d] (memL [(1000,(n+1,some (.abs (wrA bs))))]) (.tup []) (memL [(1000,(n+1,some (.abs (wrA (bs++d)))))]):=by
 refine ocall_of1 Tryz.func88 rfl (fun w0 F S0 M0=>?_)
 refine aws_endS ?_
 refine aws_says (says_unpack' (p:=1000) (o:=901) rfl rfl (List.length_map _) rfl (by decide)) ?_
 repeat' (first|refine jx5 ?_|refine jy0 ?_ ?_|exact spF|refine spQ fun hq hq'=>?_|refine spN fun hn=>?_|fail)
 refine aws_draws [(6,901),(9,1000)] mixed (by kernel_rfl) ?_
 repeat' (first|refine jx7 ?_|refine jy1 ?_ ?_|exact spF|refine spQ fun hq hq'=>?_|fail)
 refine rk_wr (gd_n rfl rfl) rfl rfl (lop_ap_ow (ob:=901) (ob2:=3) (l:=d) (m:=bs) (q:=fun n:Nat=>PVal.k .u8 (n:Int)) rfl inferInstance inferInstance inferInstance rfl rfl rfl rfl rfl rfl rfl hd rfl (by simp only [maxLen];omega) (by show (bs.length+32) * 1≤_;omega) rfl) (ro_2 (by kernel_rfl) (by kernel_rfl)) (ob_one (by decide)) ?_
 repeat' (first|refine jx7 ?_|refine jy1 ?_ ?_|exact spF|refine spQ fun hq hq'=>?_|fail)
 as_aux_lemma=>
  repeat' (first|refine jx5 ?_|refine jy0 ?_ ?_|exact spF|refine spQ fun hq hq'=>?_|refine spN fun hn=>?_|fail)
  exact ⟨_,says_pack (p:=1000) (o:=901) (pre:=[]) (post:=[]) rfl rfl rfl rfl (by rw [List.length_map]) (by decide),RetO.mk (res0 rfl rfl) ⟨.abs,trivial⟩⟩
theorem ren_dgV (c:Nat) (d:List Nat):AV.ren (rn1 c) (dgV d)=dgV d:=by
 show AV.a ((d.map _).map _)=_
 rw [List.map_map];rfl
instance wdig_i {c g n:Nat} {bs d:List Nat}:OC Tryz.prog 88 [.o (.ptr c g 0),dgV d] [(c,(n,some (.abs (wrA bs))))] [] (n=g+1∧d.length=32∧bs.length≤900000000) (.tup []) [(c,(n,some (.abs (wrA (bs++d)))))]:=⟨fun h=>by obtain ⟨rfl,h1,h2⟩:=h;have:=(wdig_o g bs d h1 h2).one c;rw [List.map_cons,List.map_cons,ren_dgV] at this;exact this⟩
theorem rdig_o (n:Nat) (r:RS):OCall Tryz.prog 93 [.o (.ptr 1000 n 0)] (memL [(1000,(n+1,some (rdM r)))]) (dgV (digS r).1) (memL [(1000,(n+1,some (rdM (digS r).2)))]):=by
 refine ocall_of1 Tryz.func93 rfl (fun w0 F S0 M0=>?_)
 have e:digS r=(if (takeS 32 r).1.length=32 then (takeS 32 r).1 else zeroD,(takeS 32 r).2):=rfl
 rw [e]
 have h32:=take_32 r
 haveI:∀ c g m:Nat,OC Tryz.prog 134 [.o (.ptr c g 0),.p (.i 32)] [(c,(m,some (rdM r)))] [] (m=g+1) (.p (.sl 1 ((takeS 32 r).1.map bR) true)) [(c,(m,some (rdM (takeS 32 r).2)))]:=fun c g m=>⟨fun h=>by obtain rfl:=h;exact (take_o g r 32).one c⟩
 generalize takeS 32 r=q at *
 obtain ⟨L,r2⟩:=q
 dsimp only at *
 rcases h32 with h|h
 ·rw [if_pos h]
  repeat' (first|refine jx5 ?_|refine jy0 ?_ ?_|exact spF|refine spQ fun hq hq'=>?_|refine spN fun hn=>?_|fail)
  refine aws_draws [(2,1000),(3,3)] mixed (by kernel_rfl) ?_
  repeat' (first|refine jx7 ?_|refine jy1 ?_ ?_|exact spF|refine spQ fun hq hq'=>?_|fail)
  refine rk_wr (gd_n rfl rfl) rfl rfl (lop_cp_ar (ob:=3) (k:=32) (m:=L) rfl inferInstance inferInstance rfl rfl rfl rfl rfl h (by decide) rfl) (fun x hx=>by rw [beq_iff_eq] at hx;subst hx;kernel_rfl) (ob_one (by decide)) ?_
  repeat' (first|refine jx7 ?_|refine jy1 ?_ ?_|exact spF|refine spQ fun hq hq'=>?_|fail)
  as_aux_lemma=>
   repeat' (first|refine jx5 ?_|refine jy0 ?_ ?_|exact spF|refine spQ fun hq hq'=>?_|refine spN fun hn=>?_|fail)
   exact RetO.mk (oc1 rfl rfl rfl rfl rfl (by rw [List.length_map];exact h) finL_p rfl) ⟨.box finL_p,trivial⟩
 ·subst h
  rw [if_neg (by decide)]
  repeat' (first|refine jx5 ?_|refine jy0 ?_ ?_|exact spF|refine spQ fun hq hq'=>?_|refine spN fun hn=>?_|fail)
  refine aws_draws [(2,1000),(3,3)] mixed (by kernel_rfl) ?_
  repeat' (first|refine jx7 ?_|refine jy1 ?_ ?_|exact spF|refine spQ fun hq hq'=>?_|fail)
  refine rk_wr (gd_n rfl rfl) rfl rfl (lop_cp_0 (ob:=3) (k:=32) rfl inferInstance inferInstance rfl rfl rfl rfl rfl rfl) (fun x hx=>by rw [beq_iff_eq] at hx;subst hx;kernel_rfl) (ob_one (by decide)) ?_
  repeat' (first|refine jx7 ?_|refine jy1 ?_ ?_|exact spF|refine spQ fun hq hq'=>?_|fail)
  as_aux_lemma=>
   repeat' (first|refine jx5 ?_|refine jy0 ?_ ?_|exact spF|refine spQ fun hq hq'=>?_|refine spN fun hn=>?_|fail)
   exact RetO.mk (oc1 rfl rfl rfl rfl rfl rfl finL_p rfl) ⟨.box finL_p,trivial⟩
theorem left_o (n:Nat) (r:RS):OCall Tryz.prog 96 [.o (.ptr 1000 n 0)] (memL [(1000,(n+1,some (rdM r)))]) (.p (.i (if r.2=0 then (r.1.length:Int) else 0))) (memL [(1000,(n+1,some (rdM r)))]):=by
 refine ocall_of1 Tryz.func96 rfl (fun w0 F S0 M0=>?_)
 by_cases h:r.2=0
 ·have d1:decide (r.2≠0)=false:=decide_eq_false fun q=>q h
  rw [if_pos h]
  as_aux_lemma=>
   repeat' (first|refine jx5 ?_|refine jy0 ?_ ?_|exact spF|refine spQ fun hq hq'=>?_|refine spN fun hn=>?_|fail)
   exact RetO.mk (ot1 rfl rfl finS_p rfl) ⟨.box finL_p,trivial⟩
 ·have d1:decide (r.2≠0)=true:=decide_eq_true h
  rw [if_neg h]
  as_aux_lemma=>
   repeat' (first|refine jx5 ?_|refine jy0 ?_ ?_|exact spF|refine spQ fun hq hq'=>?_|refine spN fun hn=>?_|fail)
   exact RetO.mk (ot1 rfl rfl finS_p rfl) ⟨.box finL_p,trivial⟩
end Go.Proofs.YtkgploeegbmofaaGreat.Wi
