/- packs: a list with another cart: copies -/
import Derived.Test.YtkgploeegbmofaaGreatSEA21
import Derived.Test.YtkgploeegbmofaaGreatSEA20
import Derived.Test.YtkgploeegbmofaaGreatSEA18
namespace Go.Proofs.YtkgploeegbmofaaGreat.Wi
open Go Go.RowKit Go.Aw Go.Aw.Cart Go.Proofs.YtkgploeegbmofaaGreat.Ca
set_option linter.unusedVariables false
set_option linter.unusedSimpArgs false
set_option maxRecDepth 8000
set_option maxHeartbeats 4000000
theorem lop_bzK {C:Ctx} {o:Oper} {σ:St} {T e:TypeId} {sz by_:Nat} {ke:TK} {be:Nat} {z:List Value} {d n0:Nat} {mo0:Option MO} (ho:o.op=.buildSlice T 0 #[]) (hT:TI C.P T (.slice e) sz by_) (he:TI C.P e ke 10 be) (hz:TZ C.P e z) (hdst:o.dst=some d) (hm0:σ.mem d=(n0,mo0)) (hd:dOk C o.dst=true) :
  LOp C o σ ⟨.o (.osl d n0 10 0 ([]:List Kd).length),[(d,(n0+1,some (.buf e 10 (([]:List Kd).map kR))))]⟩ (fun q=>q == d):=lop_bo0 ho hT he hz hdst hm0 (by decide) hd
theorem lop_boK {C:Ctx} {o:Oper} {σ:St} {T e:TypeId} {sz by_:Nat} {ke:TK} {be:Nat} {z:List Value} {d n0:Nat} {mo0:Option MO} {x0:Operand} {k:Kd} (ho:o.op=.buildSlice T 1 #[(0,x0)]) (hT:TI C.P T (.slice e) sz by_) (he:TI C.P e ke 10 be) (hz:TZ C.P e z) (hdst:o.dst=some d) (hm0:σ.mem d=(n0,mo0)) (h0:σ.look x0=.a (kL k)) (hd:dOk C o.dst=true) :
  LOp C o σ ⟨.o (.osl d n0 10 0 1),[(d,(n0+1,some (.buf e 10 [kR k])))]⟩ (fun q=>q == d):=lop_buildO (ps:=[(0,kR k)]) ho hdst hm0 (.cons ⟨rfl,rfl,_,h0,rfl⟩ .nil) rfl (by decide) (by decide) hd
namespace WD
theorem lopC {C:Ctx} {o:Oper} {σ:St} {e:Eff} {ro:Nat→Bool} (h:LOp C o σ e ro:=by
  first|(apply lop_bzK;(focus rfl);(focus exact inferInstance);(focus exact inferInstance);(focus exact inferInstance);(focus rfl);(focus rfl);(focus rfl))|(apply lop_boK;(focus rfl);(focus exact inferInstance);(focus exact inferInstance);(focus exact inferInstance);(focus rfl);(focus rfl);(focus rfl);(focus rfl))|(apply gLoad;(focus rfl);apply lop_ld_bf;(focus rfl);(focus exact inferInstance);(focus rfl);(focus rfl);(focus rfl);(focus rfl);(focus rfl);(focus omega);(focus exact inferInstance);(focus rfl);(focus rfl))|exact WC.lopC|fail):LOp C o σ e ro:=h
section steps
variable {C:Ctx} {ops:Array Oper} {o:Oper} {rest:List Oper} {K:St→Prop} {σ:St} {e:Eff} {ro:Nat→Bool} {W:List (Nat × Nat)} {i:Nat}
theorem rnC {d:Nat} (hg:Guard ops σ o true:=by first|exact gd_n rfl rfl|exact gd_t rfl rfl rfl rfl|exact gd_t rfl rfl rfl (by assumption)) (hd:o.dst=some d:=by rfl) (h:LOp C o σ e ro:=by exact lopC) (hk:RunN C ops rest K (e.app (some d) σ)):RunN C ops (o::rest) K σ:=rn_any hg hd h hk
end steps
end WD
open WD
theorem cloneK_o (l:List Kd) (ex:Bool) (h:l.length≤1000000):OCall Tryz.prog 63 [.p (.sl 10 (l.map kR) ex)] (fun _=>(0,none)) (.o (.osl 5 1 10 0 l.length)) (memL [(5,(2,some (.buf 123 10 (l.map kR))))]):=by
 refine ocall_ofF 5 Tryz.func63 rfl (fun w0 F S0 M0=>?_)
 repeat' (first|refine jx8 ?_|refine jy0 ?_ ?_|exact spF|refine spQ fun hq hq'=>?_|refine spN fun hn=>?_|fail)
 ·have e:l=[]:=List.eq_nil_of_length_eq_zero (by have:=congrArg List.length hn;rwa [List.length_map,List.length_nil] at this)
  subst e
  refine aws_says (says_bump (o:=5) (ty:=123) (es:=10) rfl (by decide)) ?_
  refine aws_says (says_nil (t:=2) (o:=5) (ty:=123) (es:=10) rfl rfl (by decide)) ?_
  as_aux_lemma=>
   repeat' (first|refine jx5 ?_|refine jy0 ?_ ?_|exact spF|refine spQ fun hq hq'=>?_|refine spN fun hn=>?_|fail)
   exact RetO.mk (ot1 rfl rfl (.one (.kosl rfl)) rfl) ⟨.buf,trivial⟩
 ·repeat' (first|refine jx5 ?_|refine jy0 ?_ ?_|exact spF|refine spQ fun hq hq'=>?_|refine spN fun hn=>?_|fail)
  exact RetO.mk (ot1 rfl rfl (.one (.kosl rfl)) rfl) ⟨.buf,trivial⟩
instance cloneK_i {c k:Nat} {l:List Kd} {ex:Bool}:OC Tryz.prog 63 [.p (.sl 10 (l.map kR) ex)] [] [(c,k)] (l.length≤1000000) (.o (.osl c (k+1) 10 0 l.length)) [(c,(k+2,some (.buf 123 10 (l.map kR))))]:=⟨fun h=>(cloneK_o l ex h).fresh1 c k⟩
end Go.Proofs.YtkgploeegbmofaaGreat.Wi
namespace Go.Proofs.YtkgploeegbmofaaGreat.Wi
open Go Go.RowKit Go.Aw Go.Aw.Cart Go.Proofs.YtkgploeegbmofaaGreat.Ca
set_option linter.unusedVariables false
set_option linter.unusedSimpArgs false
set_option maxRecDepth 8000
set_option maxHeartbeats 4000000
theorem lop_ld_bK {C:Ctx} {o:Oper} {σ:St} {l:List Kd} {T:TypeId} {x:Operand} {k:TK} {sz by_:Nat} {ob g n ty i:Nat} (ho:o.op=.load T x) (hT:TI C.P T k sz by_) (hx:σ.look x=.o (.ptr ob g (i * sz))) (hm:σ.mem ob=(n,some (.buf ty sz (l.map kR)))) (hn:n=g+1)
  (hk:k.agg=true) (hi:i < l.length) (hd:dOk C o.dst=true):LOp C o σ ⟨.a (kL (l.getD i default)),[]⟩ (fun y=>y == ob):=
 lop_ld_bk ho hT hx hm inferInstance hn hk hi rfl hd
theorem lop_st_bK {C:Ctx} {o:Oper} {σ:St} {l:List Kd} {v:Kd} {T:TypeId} {x y:Operand} {k:TK} {sz by_:Nat} {ob g n ty i:Nat} (ho:o.op=.store T x y) (hT:TI C.P T k sz by_) (hdst:o.dst=none) (hx:σ.look x=.o (.ptr ob g (i * sz))) (hy:σ.look y=.a (kL v))
  (hm:σ.mem ob=(n,some (.buf ty sz (l.map kR)))) (hs:10=sz) (hn:n=g+1) (hi:i < l.length):LOp C o σ ⟨.un,[(ob,(n,some (.buf ty sz ((l.set i v).map kR))))]⟩ (fun z=>z == ob):=by
 have:=lop_store_row (C:=C) (o:=o) (s:=.agg (kL v)) (row:=kR v) ho hdst hx hy rfl hs hm hn (by simpa using hi)
 rwa [← List.map_set] at this
namespace B1
theorem lopC {C:Ctx} {o:Oper} {σ:St} {e:Eff} {ro:Nat→Bool} (h:LOp C o σ e ro:=by
  first|(apply gLoad;(focus rfl);apply lop_ld_bK;(focus rfl);(focus exact inferInstance);(focus rfl);(focus rfl);(focus rfl);(focus rfl);(focus omega);(focus rfl))|(apply lop_lend2;(focus rfl);(focus exact inferInstance);(focus rfl);(focus rfl);(focus rfl);(focus exact (List.length_map ..).symm);(focus first|exact lk_m1 rfl|exact lk_m2 rfl|exact lk_m3 rfl|exact lk_o rfl|exact lk_a2 rfl|exact lk_a3 rfl|exact lk_a4 rfl|exact lk_a1 rfl|exact lk_a5 rfl|exact lk_a6 rfl|exact lk_a7 rfl|exact lk_a8 rfl|exact lk_a rfl);(focus exact inferInstance);(focus exact inferInstance);(focus first|exact True.intro|assumption|rfl|omega|((repeat' (first|assumption|refine And.intro ?_ ?_|omega|rfl));done)|fail);(focus exact RV.v);(focus rfl))|exact WC.lopC|exact lopQ|fail):LOp C o σ e ro:=h
section steps
variable {C:Ctx} {ops:Array Oper} {o:Oper} {rest:List Oper} {K:St→Prop} {σ:St} {e:Eff} {ro:Nat→Bool} {W:List (Nat × Nat)} {i:Nat}
theorem rnC {d:Nat} (hg:Guard ops σ o true:=by first|exact gd_n rfl rfl|exact gd_t rfl rfl rfl rfl|exact gd_t rfl rfl rfl (by assumption)) (hd:o.dst=some d:=by rfl) (h:LOp C o σ e ro:=by exact lopC) (hk:RunN C ops rest K (e.app (some d) σ)):RunN C ops (o::rest) K σ:=rn_any hg hd h hk
theorem rkC {d:Nat} (hg:Guard ops σ o true:=by first|exact gd_n rfl rfl|exact gd_t rfl rfl rfl rfl|exact gd_t rfl rfl rfl (by assumption)) (hd':o.dst=some d:=by rfl) (hd:dOk C o.dst=true:=by rfl) (h:LOp C o σ e ro:=by exact lopC) (hro:∀ x,ro x=true→okObj ops W i x=true:=by first|exact fun _=>ro_none|exact ro_one rfl|exact ro_k1 rfl|exact ro_one (by kernel_rfl)|exact ro_k1 (by kernel_rfl)|exact ro_kIn (by decide)) (hob:∀ p∈e.obj,(i,p.1)∈W:=by first|exact ob_none|exact ob_one (by decide)|decide) (hk:RunK C ops W (i+1) rest K (e.app (some d) σ)):RunK C ops W i (o::rest) K σ:=rk_wr hg hd' hd h hro hob hk
end steps
end B1
open B1
theorem filterK_take {p:Kd→Bool} {l:List Kd} {k:Nat} (hk:k≤l.length) (h:∀ i:Nat,i < k→p (l.getD i default)=false):(l.take k).filter (fun e=>!p e)=l.take k:=by
 rw [List.filter_eq_self]
 intro a ha
 obtain ⟨i,hi,rfl⟩:=List.mem_iff_getElem.1 ha
 rw [List.length_take] at hi
 have:=h i (by omega:i < k)
 rw [List.getD_eq_getElem?_getD,List.getElem?_eq_getElem (by omega)] at this
 rw [List.getElem_take]
 simpa using this
theorem takeK_get {l:List Kd} {k:Nat} (h:k < l.length):l.take (k+1)=l.take k++[l.getD k default]:=by
 rw [List.take_succ_eq_append_getElem h,List.getD_eq_getElem?_getD,List.getElem?_eq_getElem h];rfl
theorem deleteFuncK_o (f:FuncId) (caps:List PVal) (hf:FnT Tryz.prog f) (p:Kd→Bool) (n:Nat) (l:List Kd) (h:l.length≤1000000000) (hp:∀ e∈l,PCall Tryz.prog f ([kV e]++caps.map .p) (.p (.b (p e)))):OCall Tryz.prog 120 [.o (.osl 1000 n 10 0 l.length),.p (.fnv f caps)] (memL [(1000,(n+1,some (.buf 123 10 (l.map kR))))]) (.o (.osl 1000 n 10 0 (l.filter fun e=>!p e).length)) (memL [(1000,(n+1,some (.buf 123 10 ((l.filter fun e=>!p e).map kR))))]):=by
 refine ocall_of1 Tryz.func120 rfl (fun w0 F S0 M0=>?_)
 obtain ⟨L,hL⟩:∃ L,L=(l.filter fun e=>!p e).length:=⟨_,rfl⟩
 obtain ⟨A,hA⟩:∃ A,A=l.filter fun e=>!p e:=⟨_,rfl⟩
 rw [← hL,← hA]
 have cI:=indexFuncK_w f caps hf p l false h hp
 have hmem:∀ j,j < l.length→l.getD j default∈l:=fun j hj=>by rw [getD_at hj];exact List.getElem_mem hj
 rcases idxK_found (p:=p) (l:=l) l.length 0 (by omega) with ⟨hi,hno⟩ | ⟨i0,hi , -,hil,hpi,hno⟩
 ·rw [hi] at cI
  haveI:PC Tryz.prog 140 [.p (.sl 10 (l.map kR) false),.p (.fnv f caps)] True (.p (.i (-1))):=⟨fun _=>cI⟩
  have e:=filterK_take (Nat.le_refl _) (fun i hi=>hno i (Nat.zero_le _) hi)
  rw [List.take_length] at e
  rw [e] at hL hA
  subst hL hA
  as_aux_lemma=>
   repeat' (first|refine jx3 ?_|refine jy0 ?_ ?_|exact spF|refine spQ fun hq hq'=>?_|refine spN fun hn=>?_|fail)
   exact RetO.mk (ot1 rfl rfl (.one (.kosl rfl)) rfl) ⟨.buf,trivial⟩
 ·rw [hi] at cI
  haveI:PC Tryz.prog 140 [.p (.sl 10 (l.map kR) false),.p (.fnv f caps)] True (.p (.i i0)):=⟨fun _=>cI⟩
  have e0:(l.take (i0+1)).filter (fun e=>!p e)=l.take i0:=by
   rw [takeK_get hil,List.filter_append,filterK_take (by omega) (fun i hi=>hno i (Nat.zero_le _) hi)]
   rw [List.filter_cons_of_neg (by rw [hpi];simp),List.filter_nil,List.append_nil]
  have d2:decide ((i0:Int) = -1)=false:=decide_eq_false (by omega)
  repeat' (first|refine jx3 ?_|refine jy0 ?_ ?_|exact spF|refine spQ fun hq hq'=>?_|refine spN fun hn=>?_|fail)
  refine aws_loopS [5,6,7,16,17,18,19,20,21,22,23,24,25,26,27,28,29,30,31,32,33,34,35] [1000,7] (fun (x:Nat × Nat × List Kd × Option MO)=>[(6,.p (.i (i0+1+x.1:Nat))),(5,.p (.i x.2.1))]) (fun x=>[(1000,(n+1,some (.buf 123 10 (x.2.2.1.map kR)))),(7,(x.1,x.2.2.2))])
   (fun x=>i0+1+x.1≤l.length∧x.2.1 < i0+1+x.1∧x.2.2.1.length=l.length∧x.2.2.1.take x.2.1=(l.take (i0+1+x.1)).filter (fun e=>!p e)∧∀ i,i0+1+x.1≤i→x.2.2.1.getD i default=l.getD i default)
   (fun x=>l.length - x.1) (0,i0,l,none) ⟨by dsimp only;omega,by dsimp only;omega,rfl,e0.symm,fun i _=>rfl⟩ (by exact knA) (by exact knA) ?_
  rintro ⟨j,q,m,c7⟩ β γ ⟨hjl,hqj,hml,hmc,hmr⟩
  simp only at hjl hqj hml hmc hmr
  dsimp only
  by_cases hjn:i0+1+j < l.length
  ·have hd2:decide (((i0+1+j:Nat):Int) < (l.length:Int))=true:=decide_eq_true (by omega)
   have hm0:m.getD ((i0+1+j:Nat):Int).toNat default=l.getD (i0+1+j) default:=by rw [Int.toNat_natCast];exact hmr _ (by omega)
   have hct:(l.take (i0+1+(j+1))).filter (fun e=>!p e)=(l.take (i0+1+j)).filter (fun e=>!p e)++(if p (l.getD (i0+1+j) default)=true then [] else [l.getD (i0+1+j) default]):=by
    rw [← Nat.add_assoc,takeK_get hjn,List.filter_append]
    congr 1
    by_cases hx:p (l.getD (i0+1+j) default)=true
    ·rw [if_pos hx,List.filter_cons_of_neg (by rw [hx];simp),List.filter_nil]
    ·rw [if_neg hx,List.filter_cons_of_pos (by rw [Bool.eq_false_iff.2 hx];rfl),List.filter_nil]
   have hpe:PCall Tryz.prog f ([kV (m.getD ((i0+1+j:Nat):Int).toNat default)]++caps.map .p) (.p (.b (p (m.getD ((i0+1+j:Nat):Int).toNat default)))):=by
    rw [hm0];exact hp _ (hmem _ hjn)
   haveI:PC Tryz.prog f ([kV (m.getD ((i0+1+j:Nat):Int).toNat default)]++caps.map .p) True (.p (.b (p (m.getD ((i0+1+j:Nat):Int).toNat default)))):=⟨fun _=>hpe⟩
   cases hv:p (m.getD ((i0+1+j:Nat):Int).toNat default) with
   | true=>
    have hv1:(!p (m.getD ((i0+1+j:Nat):Int).toNat default))=false:=by rw [hv];rfl
    rw [hm0] at hv
    rw [if_pos hv,List.append_nil] at hct
    as_aux_lemma=>
     repeat' (first|refine jx3 ?_|refine jy0 ?_ ?_|exact spF|refine spQ fun hq hq'=>?_|refine spN fun hn=>?_|fail)
     exact ⟨(j+1,q,m,some (.box 123 (kL (m.getD ((i0+1+j:Nat):Int).toNat default)))),_,by dsimp only;omega,⟨by dsimp only;omega,by dsimp only;omega,hml,by dsimp only;rw [hmc,hct],fun i hi=>hmr i (by dsimp only at hi;omega)⟩,.refl,by exact frA⟩
   | false=>
    have hv1:(!p (m.getD ((i0+1+j:Nat):Int).toNat default))=true:=by rw [hv];rfl
    rw [hm0] at hv
    rw [if_neg (by rw [hv];simp)] at hct
    repeat' (first|refine jx3 ?_|refine jy0 ?_ ?_|exact spF|refine spQ fun hq hq'=>?_|refine spN fun hn=>?_|fail)
    refine rn_sto (gd_n rfl rfl) rfl (lop_st_bK rfl inferInstance rfl rfl rfl rfl rfl rfl (by omega)) ?_
    as_aux_lemma=>
     repeat' (first|refine jx3 ?_|refine jy0 ?_ ?_|exact spF|refine spQ fun hq hq'=>?_|refine spN fun hn=>?_|fail)
     refine ⟨(j+1,q+1,m.set (q:Int).toNat (m.getD ((i0+1+j:Nat):Int).toNat default),some (.box 123 (kL (m.getD ((i0+1+j:Nat):Int).toNat default)))),_,by dsimp only;omega,⟨by dsimp only;omega,by dsimp only;omega,by dsimp only;rw [List.length_set];exact hml,?_,fun i hi=>?_⟩,.refl,by exact frA⟩
     ·dsimp only
      rw [hm0,hct,← hmc,Int.toNat_natCast,List.take_succ_eq_append_getElem (by rw [List.length_set];omega),List.getElem_set_self,List.take_set_of_le (Nat.le_refl _)]
     ·dsimp only at hi ⊢
      rw [List.getD_eq_getElem?_getD,List.getElem?_set_ne (by rw [Int.toNat_natCast];omega),← List.getD_eq_getElem?_getD]
      exact hmr i (by omega)
  ·have hd2:decide (((i0+1+j:Nat):Int) < (l.length:Int))=false:=decide_eq_false (by omega)
   have e1:l.take (i0+1+j)=l:=List.take_of_length_le (by omega)
   rw [e1] at hmc
   have hA':A=m.take (q:Int).toNat:=by rw [hA,← hmc,Int.toNat_natCast]
   have hL':L=(q:Int).toNat:=by rw [hL,← hmc,List.length_take,Int.toNat_natCast];omega
   rw [hA',hL']
   as_aux_lemma=>
    repeat' (first|refine jx3 ?_|refine jy0 ?_ ?_|exact spF|refine spQ fun hq hq'=>?_|refine spN fun hn=>?_|fail)
    exact RetO.mk (ot1 rfl rfl (.one (.kosl rfl)) rfl) ⟨.buf,trivial⟩
end Go.Proofs.YtkgploeegbmofaaGreat.Wi
namespace Go.Proofs.YtkgploeegbmofaaGreat.Wi
open Go Go.RowKit Go.Aw Go.Aw.Cart Go.Proofs.YtkgploeegbmofaaGreat.Ca Go.Proofs.YtkgploeegbmofaaGreat.Rg
set_option linter.unusedVariables false
set_option linter.unusedSimpArgs false
set_option maxRecDepth 8000
set_option maxHeartbeats 4000000
open B1
theorem empty_w (v:List Int) (l:List Ent) (ex:Bool) (hv:v.length=8) (hl:l.length≤1000000000):PCall Tryz.prog 122 [cV v l ex] (.p (.b (emptyF (v,l)))):=by
 refine pcall_of Tryz.func122 rfl (fun w0 F S0 M0=>?_)
 have c1:=same_w v zeroV l [] ex false hv rfl hl
 have c2:PCall Tryz.prog 81 [cV v l ex,.a [.p (.k .u64 0),.p (.k .u64 0),.p (.k .u64 0),.p (.k .u64 0),.p (.k .u64 0),.p (.k .u64 0),.p (.k .u64 0),.p (.k .u64 0),.p (.v (.slice none 0 0))]] (.p (.b (sameF v zeroV l []))):=
  c1.ent (.cons Ent1.refl (.cons (Ent1.cells (.cons .refl (.cons .refl (.cons .refl (.cons .refl (.cons .refl (.cons .refl (.cons .refl (.cons .refl (.cons .nil .nil)))))))))) .nil))
 haveI c3:PC Tryz.prog 81 [cV v l ex,.a [.p (.k .u64 0),.p (.k .u64 0),.p (.k .u64 0),.p (.k .u64 0),.p (.k .u64 0),.p (.k .u64 0),.p (.k .u64 0),.p (.k .u64 0),.p (.v (.slice none 0 0))]] True (.p (.b (sameF v zeroV l []))):=⟨fun _=>c2⟩
 unfold emptyF
 dsimp only
 as_aux_lemma=>
  repeat' (first|refine jx5 ?_|refine jy0 ?_ ?_|exact spF|refine spQ fun hq hq'=>?_|refine spN fun hn=>?_|fail)
  exact rt1 rfl rfl finS_p rfl
instance empty_i {v:List Int} {l:List Ent} {ex:Bool}:PC Tryz.prog 122 [cV v l ex] (v.length=8∧l.length≤1000000000) (.p (.b (emptyF (v,l)))):=⟨fun h=>empty_w v l ex h.1 h.2⟩
theorem off_w (e:Kd) (h:KdI e) (hf:e.2.2.length≤1000000000):PCall Tryz.prog 121 ([kV e]++([]:List PVal).map .p) (.p (.b (offF e))):=by
 refine pcall_of Tryz.func121 rfl (fun w0 F S0 M0=>?_)
 have h8:=h.vec.1
 haveI c2:PC Tryz.prog 73 [.p (.v (.string (strOf e.1)))] True (.p (.b (keyR e.1))):=⟨fun _=>keyRightL_w e.1 h.key h.len⟩
 have ho:offF e=(emptyF (e.2.1,e.2.2)||!keyR e.1):=rfl
 cases he:emptyF (e.2.1,e.2.2) with
 | true=>
  rw [ho,he,Bool.true_or]
  as_aux_lemma=>
   repeat' (first|refine jx6 ?_|refine jy0 ?_ ?_|exact spF|refine spQ fun hq hq'=>?_|refine spN fun hn=>?_|fail)
   exact rt1 rfl rfl finS_p rfl
 | false=>
  rw [ho,he,Bool.false_or]
  as_aux_lemma=>
   repeat' (first|refine jx6 ?_|refine jy0 ?_ ?_|exact spF|refine spQ fun hq hq'=>?_|refine spN fun hn=>?_|fail)
   exact rt1 rfl rfl finS_p rfl
abbrev bkM (X:List (List Kd)):List (Option (List (List PVal))):=(X.map fun b=>b.map kR).map some
theorem lop_ld_takeK {C:Ctx} {o:Oper} {σ:St} {T:TypeId} {x:Operand} {k:TK} {sz by_:Nat} {ob g i n d nd ty tyB:Nat} {mo0:Option MO} {X:List (List Kd)} (ho:o.op=.load T x) (hT:TI C.P T k sz by_) (hdst:o.dst=some d) (hx:σ.look x=.o (.ptr ob g (0+i * 1))) (hm:σ.mem ob=(n,some (.abs (arrA ty tyB 10 (bkM X))))) (hn:n=g+1)
  (hk:k.agg=false) (hs:sz=1) (hi:i < X.length) (hmd:σ.mem d=(nd,mo0)) (hne:d≠ob) (hd:dOk C o.dst=true) :
  LOp C o σ ⟨.o (.osl d nd 10 0 (X.getD i []).length),[(ob,(n,some (.abs (arrA ty tyB 10 ((bkM X).set i none))))),(d,(nd+1,some (.buf tyB 10 ((X.getD i []).map kR))))]⟩ (fun q=>q == ob||q == d):=by
 have hx':σ.look x=.o (.ptr ob g i):=by rw [hx,Nat.zero_add,Nat.mul_one]
 have:=lop_ld_take (C:=C) (o:=o) (rows:=(X.getD i []).map kR) ho hT hdst hx' hm hn hk hs (by
  rw [List.getElem?_map,List.getElem?_map,List.getD_eq_getElem?_getD,List.getElem?_eq_getElem hi];rfl) hmd hne hd
 rwa [List.length_map] at this
theorem lop_st_giveK {C:Ctx} {o:Oper} {σ:St} {T:TypeId} {x y:Operand} {k:TK} {sz by_:Nat} {ob g i n d gd nd len ty tyB:Nat} {X:List (List Kd)} {B:List Kd} (ho:o.op=.store T x y) (hT:TI C.P T k sz by_) (hdst:o.dst=none) (hx:σ.look x=.o (.ptr ob g (0+i * 1))) (hy:σ.look y=.o (.osl d gd 10 0 len)) (hm:σ.mem ob=(n,some (.abs (arrA ty tyB 10 ((bkM X).set i none))))) (hn:n=g+1)
  (hs:sz=1) (hi:i < X.length) (hmd:σ.mem d=(nd,some (.buf tyB 10 (B.map kR)))) (hnd:nd=gd+1) (hlr:len=B.length) (hne:d≠ob) :
  LOp C o σ ⟨.un,[(ob,(n,some (.abs (arrA ty tyB 10 (bkM (X.set i B)))))),(d,(nd,none))]⟩ (fun q=>q == ob||q == d):=by
 have hx':σ.look x=.o (.ptr ob g i):=by rw [hx,Nat.zero_add,Nat.mul_one]
 have:=lop_st_give (C:=C) (o:=o) ho hT hdst hx' hy hm hn hs (by rw [List.getElem?_set_self (by simpa using hi)]) hmd hnd (by rw [List.length_map];exact hlr) hne
 have e:((bkM X).set i none).set i (some (B.map kR))=bkM (X.set i B):=by
  unfold bkM
  rw [List.set_set,List.map_set,List.map_set]
 rwa [e] at this
theorem finL_map {α:Type} {σ:St} {K:Nat→Bool} {f:α→PVal} {l:List α}:All2 (FinC σ K) (l.map fun a=>.p (f a)) (l.map fun a=>.p (f a)):=by
 refine ⟨rfl,fun i a b ha hb=>?_⟩
 rw [ha] at hb;obtain rfl:=Option.some.inj hb
 rw [List.getElem?_map] at ha
 obtain ⟨x,_,rfl⟩:=Option.map_eq_some_iff.1 ha
 exact .p
theorem ent_fnc {f:FuncId}:Ent1 (.p (.v (.func (.func f) #[] #[]))) (.p (.fnv f [])):=by
 rintro μ X v ⟨rfl,_⟩
 exact ⟨[],rfl,.nil⟩
theorem ro_two {ops:Array Oper} {W:List (Nat × Nat)} {i a b:Nat} (h:okObj ops W i a=true) (k:okObj ops W i b=true):∀ x,(fun q:Nat=>q == a||q == b) x=true→okObj ops W i x=true:=fun x hx=>by
 rcases Bool.or_eq_true_iff.1 hx with q|q
 ·rw [beq_iff_eq.1 q];exact h
 ·rw [beq_iff_eq.1 q];exact k
theorem ob_two {W:List (Nat × Nat)} {i x y:Nat} {m m':Nat × Option MO} (h:(i,x)∈W) (k:(i,y)∈W):∀ p∈[(x,m),(y,m')],(i,p.1)∈W:=fun p hp=>by
 simp only [List.mem_cons,List.not_mem_nil,or_false] at hp
 rcases hp with rfl|rfl
 ·exact h
 ·exact k
theorem buckets_w (l:List Kd) (ex:Bool) (part:Int) (hl:l.length≤100000) (hin:∀ k∈l,KdI k) (hf:∀ k∈l,k.2.2.length≤1000000000):PCall Tryz.prog 78 [.p (.sl 10 (l.map kR) ex),.p (.i part)] (.a ((bktsF l part).map fun b=>.p (.sl 10 (b.map kR) false))):=by
 refine pcall_of Tryz.func78 rfl (fun w0 F S0 M0=>?_)
 have c0:=pright_w l ex (by omega) hin hf
 repeat' (first|refine jx5 ?_|refine jy0 ?_ ?_|exact spF|refine spQ fun hq hq'=>?_|refine spN fun hn=>?_|fail)
 refine rn_says (says_arr0 (o:=5) (k:=16) (es:=10) (tyB:=123) rfl (by decide)) rfl ?_
 unfold bktsF
 cases hr:keysF l with
 | false=>
  rw [hr] at c0
  haveI:PC Tryz.prog 28 [.p (.sl 10 (l.map kR) ex)] True (.p (.b false)):=⟨fun _=>c0⟩
  rw [if_neg (by simp)]
  refine rn_says (says_arr1 (o:=5) (L:=List.replicate 16 []) rfl) rfl ?_
  as_aux_lemma=>
   repeat' (first|refine jx5 ?_|refine jy0 ?_ ?_|exact spF|refine spQ fun hq hq'=>?_|refine spN fun hn=>?_|fail)
   exact rc1 rfl rfl rfl rfl rfl rfl (finL_map (l:=List.replicate 16 ([]:List (List PVal)))) rfl
 | true=>
  rw [hr] at c0
  haveI:PC Tryz.prog 28 [.p (.sl 10 (l.map kR) ex)] True (.p (.b true)):=⟨fun _=>c0⟩
  rw [if_pos rfl]
  have hS:∀ e∈stF l,okB e.1∧e.1.length≤20:=fun e he=>⟨(hin e (st_sub e he)).key,(keys_iff.1 hr).key e (st_sub e he)⟩
  have hSl:(stF l).length≤100000:=Nat.le_trans (st_len l) hl
  have dl:OCall Tryz.prog 120 [.o (.osl 1000 1 10 0 l.length),.p (.fnv 121 [])] (memL [(1000,(1+1,some (.buf 123 10 (l.map kR))))]) (.o (.osl 1000 1 10 0 (stF l).length)) (memL [(1000,(1+1,some (.buf 123 10 ((stF l).map kR))))]):=
   deleteFuncK_o 121 [] inferInstance offF 1 l (by omega) fun e he=>off_w e (hin e he) (hf e he)
  generalize stF l=S at hS hSl dl ⊢
  haveI:OC Tryz.prog 120 [.o (.osl 16 1 10 0 l.length),.p (.v (.func (.func 121) #[] #[]))] [(16,(2,some (.buf 123 10 (l.map kR))))] [] True (.o (.osl 16 1 10 0 S.length)) [(16,(2,some (.buf 123 10 (S.map kR))))]:=⟨fun _=>(dl.one 16).ent (.cons Ent1.refl (.cons ent_fnc .nil))⟩
  have hl6:l.length≤1000000:=by omega
  repeat' (first|refine jx5 ?_|refine jy0 ?_ ?_|exact spF|refine spQ fun hq hq'=>?_|refine spN fun hn=>?_|fail)
  refine aws_loopS [8,9,10,20,21,22,23,24,25,26,27,28,29,30,31,32,33,34,35,36,37,38,39,40,41] [5,8,36] (fun (x:Nat × List (List Kd) × Nat × Option MO)=>[(20,.p (.i x.1))]) (fun x=>[(5,(1,some (.abs (arrA 144 123 10 (bkM x.2.1))))),(8,(x.1,x.2.2.2)),(36,(x.2.2.1,none))]) (fun x=>x.1≤S.length∧x.2.1=bkF part (S.take x.1)) (fun x=>S.length - x.1) (0,List.replicate 16 [],0,none) ⟨Nat.zero_le _,rfl⟩ (by exact knA) (by exact knA) ?_
  rintro ⟨i,X,g,m8⟩ β γ ⟨hi,hX⟩
  dsimp only at hi hX ⊢
  by_cases hil:i < S.length
  ·have d1:decide ((i:Int) < (S.length:Int))=true:=decide_eq_true (by omega)
   have ei:(i:Int).toNat=i:=Int.toNat_natCast i
   obtain ⟨e,he⟩:∃ e,e=S.getD (i:Int).toNat default:=⟨_,rfl⟩
   have hme:e∈S:=by rw [he,ei,getD_at hil];exact List.getElem_mem _
   have hst:S.take (i+1)=S.take i++[e]:=by rw [takeK_get hil,he,ei]
   obtain ⟨q1,q2⟩:=hS e hme
   have q3:e.1.length≤1000000:=by omega
   have hlf:=leaf_lt e.1
   have hXl:X.length=16:=by rw [hX];exact bkF_len _ _
   have hle:leafF e.1 < X.length:=by omega
   by_cases hp:(partF e.1:Int)=part
   ·have d2:decide ((partF e.1:Int)=part)=true:=decide_eq_true hp
    have hput:=bk_put (L:=S.take i) hp
    rw [← hst,← hX] at hput
    have hroom:(X.getD (leafF e.1:Int).toNat []).length≤100000:=by
     rw [Int.toNat_natCast,hX,bkF_get _ _ hlf]
     exact Nat.le_trans (List.length_filter_le _ _) (by rw [List.length_take];omega)
    have hmax:(100000:Nat)+1≤maxLen:=by decide
    rw [he] at d2 q1 q2 q3 hlf hle hroom
    repeat' (first|refine jx5 ?_|refine jy0 ?_ ?_|exact spF|refine spQ fun hq hq'=>?_|refine spN fun hn=>?_|fail)
    refine aws_draws [(3,5),(3,36),(6,36),(8,5),(8,36)] mixed (by kernel_rfl) ?_
    repeat' (first|refine jx6 ?_|refine jy0 ?_ ?_|exact spF|refine spQ fun hq hq'=>?_|refine spN fun hn=>?_|fail)
    refine rkA (h:=lop_ld_takeK (X:=X) (by rfl) (by infer_instance) (by rfl) (by rfl) (by rfl) (by rfl) (by rfl) (by rfl) (by rw [Int.toNat_natCast];exact hle) (by rfl) (by decide) (by rfl)) (hro:=ro_two (by kernel_rfl) (by kernel_rfl)) (hob:=ob_two (by decide) (by decide)) (hk:=?_)
    repeat' (first|refine jx6 ?_|refine jy0 ?_ ?_|exact spF|refine spQ fun hq hq'=>?_|refine spN fun hn=>?_|fail)
    refine rk_sto (gd_n rfl rfl) rfl (lop_st_giveK (X:=X) (B:=X.getD (leafF (S.getD (i:Int).toNat default).1:Int).toNat []++[(S.getD (i:Int).toNat default)]) (by rfl) (by infer_instance) (by rfl) (by rfl) (by rfl) (by rfl) (by rfl) (by rfl) (by rw [Int.toNat_natCast];exact hle) (by rfl) (by rfl) (by rfl) (by decide)) (ro_two (by kernel_rfl) (by kernel_rfl)) (ob_two (by decide) (by decide)) ?_
    as_aux_lemma=>
     repeat' (first|refine jx6 ?_|refine jy0 ?_ ?_|exact spF|refine spQ fun hq hq'=>?_|refine spN fun hn=>?_|fail)
     exact ⟨(i+1,X.set (leafF (S.getD (i:Int).toNat default).1:Int).toNat (X.getD (leafF (S.getD (i:Int).toNat default).1:Int).toNat []++[(S.getD (i:Int).toNat default)]),g+2,_),_,by dsimp only;omega,⟨by dsimp only;omega,by dsimp only;rw [hput,he];simp only [Int.toNat_natCast]⟩,.refl,by exact frA⟩
   ·have d2:decide ((partF e.1:Int)=part)=false:=decide_eq_false hp
    have hput:=bk_skip (L:=S.take i) hp
    rw [← hst,← hX] at hput
    rw [he] at d2 q1 q2 q3 hlf hle
    as_aux_lemma=>
     repeat' (first|refine jx5 ?_|refine jy0 ?_ ?_|exact spF|refine spQ fun hq hq'=>?_|refine spN fun hn=>?_|fail)
     exact ⟨(i+1,X,g,_),_,by dsimp only;omega,⟨by dsimp only;omega,by dsimp only;exact hput.symm⟩,.refl,by exact frA⟩
  ·have d1:decide ((i:Int) < (S.length:Int))=false:=decide_eq_false (by omega)
   obtain rfl:i=S.length:=by omega
   rw [List.take_length] at hX
   rw [← hX]
   have hXl:X.length=16:=by rw [hX];exact bkF_len _ _
   clear hX
   repeat' (first|refine jx5 ?_|refine jy0 ?_ ?_|exact spF|refine spQ fun hq hq'=>?_|refine spN fun hn=>?_|fail)
   refine rn_says (says_arr1 (o:=5) (L:=X.map fun b=>b.map kR) rfl) rfl ?_
   have hXm:((X.map fun b=>b.map kR).map fun rows=>AC.p (.sl 10 rows false)).length=16:=by rw [List.length_map,List.length_map];exact hXl
   as_aux_lemma=>
    repeat' (first|refine jx5 ?_|refine jy0 ?_ ?_|exact spF|refine spQ fun hq hq'=>?_|refine spN fun hn=>?_|fail)
    refine rc1 rfl rfl rfl rfl rfl hXm (finL_map (l:=X.map fun b=>b.map kR)) ?_
    rw [List.map_map];rfl
end Go.Proofs.YtkgploeegbmofaaGreat.Wi
