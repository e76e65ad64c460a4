/- packs: slices.Insert of one element into an own slice -/
import Derived.Test.YtkgploeegbmofaaGreatSEA13
import Derived.Test.YtkgploeegbmofaaGreatSEA20
import Derived.Test.YtkgploeegbmofaaGreatSEA22
import Derived.Test.YtkgploeegbmofaaGreatSEA25
import Derived.Test.YtkgploeegbmofaaGreatSEA31
import Derived.Test.YtkgploeegbmofaaGreatSEA24
import Derived.Test.YtkgploeegbmofaaGreatSEA39
import Derived.Test.YtkgploeegbmofaaGreatSEA40
import Derived.Test.YtkgploeegbmofaaGreatSEA14
namespace Go.Proofs.YtkgploeegbmofaaGreat.Wi
open Go Go.RowKit Go.Aw Go.Aw.Cart Go.Proofs.YtkgploeegbmofaaGreat.Ca
set_option linter.unusedVariables false
set_option linter.unusedSimpArgs false
set_option maxRecDepth 8000
set_option maxHeartbeats 4000000
namespace WI
theorem lopC {C:Ctx} {o:Oper} {σ:St} {e:Eff} {ro:Nat→Bool} (h:LOp C o σ e ro:=by
  first|(apply lop_cap_asl;(focus rfl);(focus exact inferInstance);(focus rfl);(focus rfl))|exact lop_len_asl rfl rfl rfl|(apply lop_sl_asl_l;(focus rfl);(focus exact inferInstance);(focus exact inferInstance);(focus rfl);(focus rfl);(focus omega);(focus omega);(focus omega);(focus omega);(focus rfl))|(apply lop_sl_asl_h;(focus rfl);(focus exact inferInstance);(focus exact inferInstance);(focus rfl);(focus rfl);(focus omega);(focus omega);(focus rfl))|(apply lop_sl_osl_l;(focus rfl);(focus exact inferInstance);(focus exact inferInstance);(focus rfl);(focus rfl);(focus omega);(focus omega);(focus rfl))|(apply lop_sl_osl_u;(focus rfl);(focus exact inferInstance);(focus exact inferInstance);(focus rfl);(focus rfl);(focus omega);(focus omega);(focus rfl))|exact W9.lopC|fail):LOp C o σ e ro:=h
section steps
variable {C:Ctx} {ops:Array Oper} {o:Oper} {rest:List Oper} {K:St→Prop} {σ:St} {e:Eff} {ro:Nat→Bool} {W:List (Nat × Nat)} {i:Nat}
theorem rnC {d:Nat} (hg:Guard ops σ o true:=by first|exact gd_n rfl rfl|exact gd_t rfl rfl rfl rfl|exact gd_t rfl rfl rfl (by assumption)) (hd:o.dst=some d:=by rfl) (h:LOp C o σ e ro:=by exact lopC) (hk:RunN C ops rest K (e.app (some d) σ)):RunN C ops (o::rest) K σ:=rn_any hg hd h hk
theorem rkC {d:Nat} (hg:Guard ops σ o true:=by first|exact gd_n rfl rfl|exact gd_t rfl rfl rfl rfl|exact gd_t rfl rfl rfl (by assumption)) (hd':o.dst=some d:=by rfl) (hd:dOk C o.dst=true:=by rfl) (h:LOp C o σ e ro:=by exact lopC) (hro:∀ x,ro x=true→okObj ops W i x=true:=by first|exact fun _=>ro_none|exact ro_one rfl|exact ro_k1 rfl|exact ro_one (by kernel_rfl)|exact ro_k1 (by kernel_rfl)|exact ro_kIn (by decide)) (hob:∀ p∈e.obj,(i,p.1)∈W:=by first|exact ob_none|exact ob_one (by decide)|decide) (hk:RunK C ops W (i+1) rest K (e.app (some d) σ)):RunK C ops W i (o::rest) K σ:=rk_wr hg hd' hd h hro hob hk
end steps
end WI
open WI
abbrev kT:=123
theorem ovl_f:OvF Tryz.prog 166 36 4:=⟨_,Tryz.func166,by kernel_rfl,by kernel_rfl,by kernel_rfl,by kernel_rfl⟩
theorem ins_rows1 {α:Type} (rows:List α) (xr zr:α) (i:Nat) (hi:i < rows.length) (A R:List α) (hA:A=rows.take i++List.replicate (rows.length+1 - i) zr) (hR:R=A.take i++[xr]++A.drop (i+1)) :
  R.take (i+1)++(rows.drop i).take (rows.length - i)++R.drop (i+1+(rows.length - i))=rows.take i++xr::rows.drop i:=by
 have hl:(rows.take i).length=i:=by rw [List.length_take];omega
 have hAl:A.length=rows.length+1:=by rw [hA,List.length_append,hl,List.length_replicate];omega
 have hAt:A.take i=rows.take i:=by
  rw [hA]
  exact List.take_left' hl
 have hRl:R.length=rows.length+1:=by rw [hR,List.length_append,List.length_append,hAt,hl,List.length_drop,hAl,List.length_singleton];omega
 have h1:R.take (i+1)=rows.take i++[xr]:=by
  have e:(rows.take i++[xr]).length=i+1:=by rw [List.length_append,hl];rfl
  rw [hR,hAt]
  exact List.take_left' e
 have h2:R.drop (i+1+(rows.length - i))=[]:=List.drop_of_length_le (by omega)
 have h3:(rows.drop i).take (rows.length - i)=rows.drop i:=List.take_of_length_le (by rw [List.length_drop];omega)
 rw [h1,h2,h3,List.append_nil,List.append_assoc];rfl
theorem ins_len1 {α:Type} (rows:List α) (xr zr:α) (i:Nat) (hi:i < rows.length) (A R:List α) (hA:A=rows.take i++List.replicate (rows.length+1 - i) zr) (hR:R=A.take i++[xr]++A.drop (i+1)):R.length=rows.length+1:=by
 have hl:(rows.take i).length=i:=by rw [List.length_take];omega
 have hAl:A.length=rows.length+1:=by rw [hA,List.length_append,hl,List.length_replicate];omega
 rw [hR,List.length_append,List.length_append,List.length_take,List.length_drop,hAl,List.length_singleton];omega
theorem ins_len2 {α:Type} (rows:List α) (i:Nat) (hi:i < rows.length) (R:List α) (hR:R=rows.take (i+1)++(rows.drop i).take (rows.length - i)++rows.drop (i+1+(rows.length - i))):R.length=rows.length+1:=by
 rw [hR,List.length_append,List.length_append,List.length_take,List.length_take,List.length_drop,List.length_drop];omega
theorem ins_rows2 {α:Type} (rows:List α) (xr:α) (i:Nat) (hi:i < rows.length) (R:List α) (hR:R=rows.take (i+1)++(rows.drop i).take (rows.length - i)++rows.drop (i+1+(rows.length - i))) :
  R.take i++[xr]++R.drop (i+1)=rows.take i++xr::rows.drop i:=by
 have hl:(rows.take (i+1)).length=i+1:=by rw [List.length_take];omega
 have h2:rows.drop (i+1+(rows.length - i))=[]:=List.drop_of_length_le (by omega)
 have h3:(rows.drop i).take (rows.length - i)=rows.drop i:=List.take_of_length_le (by rw [List.length_drop];omega)
 rw [h2,h3,List.append_nil] at hR
 have h1:R.take i=rows.take i:=by
  rw [hR,List.take_append_of_le_length (by omega),List.take_take,Nat.min_eq_left (by omega)]
 have h2:R.drop (i+1)=rows.drop i:=by
  rw [hR]
  exact List.drop_left' hl
 rw [h1,h2,List.append_assoc];rfl
abbrev zR:List Value:=[.string ByteArray.empty,.int .u64 0,.int .u64 0,.int .u64 0,.int .u64 0,.int .u64 0,.int .u64 0,.int .u64 0,.int .u64 0,.slice none 0 0]
theorem zR_one:∀ v∈zR,v.oneCell'=true:=by
 intro v hv
 simp only [zR,List.mem_cons,List.not_mem_nil,or_false] at hv
 rcases hv with rfl|rfl|rfl|rfl|rfl|rfl|rfl|rfl|rfl|rfl<;>rfl
theorem insert_o (g gd:Nat) (l:List Kd) (x:Kd) (i:Nat) (hi:i≤l.length) (hl:l.length≤1000000):OCall Tryz.prog 142 [.o (.osl 1000 g 10 0 l.length),.p (.i (i:Int)),.o (.osl 1001 gd 10 0 1)]
  (memL [(1000,(g+1,some (.buf kT 10 (l.map kR)))),(1001,(gd+1,some (.buf kT 10 [kR x])))]) (.o (.osl 1000 (g+1) 10 0 (l.take i++x::l.drop i).length)) (memL [(1000,(g+2,some (.buf kT 10 ((l.take i++x::l.drop i).map kR)))),(1001,(gd+1,some (.buf kT 10 [kR x])))]):=by
 refine ocall_of22 Tryz.func142 rfl (fun w0 F S0 M0=>?_)
 have d0:decide (((1:Nat):Int)=0)=false:=by decide
 have hnl:(l.take i++x::l.drop i).length=l.length+1:=by rw [List.length_append,List.length_cons,List.length_take,List.length_drop];omega
 rw [hnl]
 by_cases he:i=l.length
 ·have d1:decide ((i:Int)=(l.length:Int))=true:=decide_eq_true (by omega)
  rw [show (l.take i++x::l.drop i).map kR=l.map kR++[kR x] by rw [he,List.take_length,List.drop_length,List.map_append];rfl]
  repeat' (first|refine jx5 ?_|refine jy0 ?_ ?_|exact spF|refine spQ fun hq hq'=>?_|refine spN fun hn=>?_|fail)
  refine rn_any (gd_n rfl rfl) rfl (lop_append_osl (es:=10) (rows:=l.map kR) (news:=[kR x]) rfl rfl rfl rfl (by rw [List.length_map]) (src_osl (x:=.tmp 24) (rows:=[kR x]) (lo:=0) (len:=1) rfl rfl rfl (Nat.le_refl _)) rfl (by rw [List.length_map];simp only [maxLen,List.length_cons,List.length_nil];omega) (by rw [List.length_map];simp only [List.length_cons,List.length_nil];omega) rfl) ?_
  as_aux_lemma=>
   repeat' (first|refine jx5 ?_|refine jy0 ?_ ?_|exact spF|refine spQ fun hq hq'=>?_|refine spN fun hn=>?_|fail)
   exact RetO.mk (ot1 rfl rfl (.one (.kosl rfl)) (by rw [List.length_map];rfl)) ⟨.buf,.buf,trivial⟩
 ·have d1:decide ((i:Int)=(l.length:Int))=false:=decide_eq_false (by omega)
  have hil:i < l.length:=by omega
  refine aws_endS ?_
  refine aws_cap (t:=0) (o:=1000) rfl rfl rfl (by rw [List.length_map];omega) fun c hc1 hc2=>?_
  rw [List.length_map] at hc1
  simp only [maxLen] at hc2
  have hm:(l.take i++x::l.drop i).map kR=(l.map kR).take i++kR x::(l.map kR).drop i:=by rw [List.map_append,List.map_cons,List.map_take,List.map_drop]
  rw [hm]
  have hrl:(l.map kR).length=l.length:=List.length_map _
  by_cases hg:c < l.length+1
  ·have d2:decide ((c:Int) < (l.length:Int)+((1:Nat):Int))=true:=decide_eq_true (by omega)
   have hE:=ins_rows1 (l.map kR) (kR x) (zR.map PVal.v) i (by rw [hrl];exact hil) _ _ rfl rfl
   have hRl:=ins_len1 (l.map kR) (kR x) (zR.map PVal.v) i (by rw [hrl];exact hil) _ _ rfl rfl
   rw [hrl] at hE hRl
   rw [← hE]
   repeat' (first|refine jx5 ?_|refine jy0 ?_ ?_|exact spF|refine spQ fun hq hq'=>?_|refine spN fun hn=>?_|fail)
   refine rn_any (gd_n rfl rfl) rfl (lop_ap_zc (k:=l.length+1 - i) (len1:=i) (z:=zR) rfl inferInstance inferInstance inferInstance inferInstance rfl zR_one rfl rfl rfl rfl rfl (by omega) (by omega) (by rw [hrl];omega) (by omega) (by omega) (by omega) rfl (by decide) rfl) ?_
   repeat' (first|refine jx5 ?_|refine jy0 ?_ ?_|exact spF|refine spQ fun hq hq'=>?_|refine spN fun hn=>?_|fail)
   refine rn_any (gd_n rfl rfl) rfl (lop_cp_o (ob:=40) (d:=i) (k:=1) rfl inferInstance inferInstance rfl rfl rfl ((src_osl (x:=.tmp 44) (rows:=[kR x]) (lo:=0) (len:=1) rfl rfl rfl (Nat.le_refl _)).n (Nat.succ_pos 0)) (by show Nat.min 1 _=1;exact Nat.min_eq_left (by omega)) (Nat.le_refl 1) (by decide) (by rw [List.length_append,List.length_take,hrl,List.length_replicate];omega) rfl) ?_
   repeat' (first|refine jx5 ?_|refine jy0 ?_ ?_|exact spF|refine spQ fun hq hq'=>?_|refine spN fun hn=>?_|fail)
   refine aws_draws [(8,40)] mixed (by kernel_rfl) ?_
   repeat' (first|refine jx7 ?_|refine jy1 ?_ ?_|exact spF|refine spQ fun hq hq'=>?_|fail)
   refine rk_wr (gd_n rfl rfl) rfl rfl (lop_cp_o (ob:=40) (d:=i+1) (k:=l.length - i) rfl inferInstance inferInstance rfl rfl rfl (src_aslC (x:=.tmp 53) (ob:=1000) (d:=i) rfl rfl rfl (by show 0+(i:Int).toNat * 10=i * 10;rw [Nat.zero_add];rfl)) (by show Nat.min (l.length - i) _=l.length - i;exact Nat.min_eq_left (by omega)) (by rw [List.length_drop,hrl];exact Nat.le_refl _) (by omega) (Nat.le_trans (show i+1+(i+(l.length+1 - i) - ((i:Int)+((1:Nat):Int)).toNat)≤l.length+1 by omega) (Nat.le_of_eq hRl.symm)) rfl) (by intro q hq;simp only [Bool.or_eq_true,beq_iff_eq] at hq;rcases hq with rfl|rfl<;>kernel_rfl) (ob_one (by decide)) ?_
   repeat' (first|refine jx7 ?_|refine jy1 ?_ ?_|exact spF|refine spQ fun hq hq'=>?_|fail)
   as_aux_lemma=>
    repeat' (first|refine jx5 ?_|refine jy0 ?_ ?_|exact spF|refine spQ fun hq hq'=>?_|refine spN fun hn=>?_|fail)
    exact ⟨_,says_mv (t:=6) (o:=1000) (o2:=40) rfl rfl rfl rfl (by decide),RetO.mk (ot1 rfl rfl (.one (.kosl rfl)) (by rw [show i+(l.length+1 - i)=l.length+1 by omega])) ⟨.buf,.buf,trivial⟩⟩
  ·have d2:decide ((c:Int) < (l.length:Int)+((1:Nat):Int))=false:=decide_eq_false (by omega)
   have hE:=ins_rows2 (l.map kR) (kR x) i (by rw [hrl];exact hil) _ rfl
   have hRl:=ins_len2 (l.map kR) i (by rw [hrl];exact hil) _ rfl
   rw [hrl] at hE hRl
   have hR2:=(congrArg List.length hE).trans (show ((l.map kR).take i++kR x::(l.map kR).drop i).length=l.length+1 by rw [List.length_append,List.length_cons,List.length_take,List.length_drop,hrl];omega)
   rw [← hE]
   repeat' (first|refine jx5 ?_|refine jy0 ?_ ?_|exact spF|refine spQ fun hq hq'=>?_|refine spN fun hn=>?_|fail)
   refine rn_any (gd_n rfl rfl) rfl (lop_ovl (ob:=1000) (d:=1001) ovl_f inferInstance inferInstance rfl rfl rfl rfl rfl rfl rfl (Nat.succ_pos _) (by rw [hrl];omega) (by decide) rfl) ?_
   have d3:(!false)=true:=rfl
   repeat' (first|refine jx5 ?_|refine jy0 ?_ ?_|exact spF|refine spQ fun hq hq'=>?_|refine spN fun hn=>?_|fail)
   refine aws_draws [(8,1000)] mixed (by kernel_rfl) ?_
   repeat' (first|refine jx7 ?_|refine jy1 ?_ ?_|exact spF|refine spQ fun hq hq'=>?_|fail)
   refine rk_wr (gd_n rfl rfl) rfl rfl (lop_cp_c (ob:=1000) (d:=i+1) (c:=c) (k:=l.length - i) rfl inferInstance inferInstance rfl rfl rfl (by show 0+((i:Int)+((1:Nat):Int)).toNat * 10=(i+1) * 10;rw [show ((i:Int)+((1:Nat):Int)).toNat=i+1 by omega,Nat.zero_add]) (src_aslC (x:=.tmp 76) (ob:=1000) (d:=i) rfl rfl rfl (by show 0+(i:Int).toNat * 10=i * 10;rw [Nat.zero_add];rfl)) (by show Nat.min (((l.length:Int)+((1:Nat):Int)).toNat - (i:Int).toNat) (((l.length:Int)+((1:Nat):Int)).toNat - ((i:Int)+((1:Nat):Int)).toNat)=l.length - i;exact (Nat.min_eq_right (show ((l.length:Int)+((1:Nat):Int)).toNat - ((i:Int)+((1:Nat):Int)).toNat≤((l.length:Int)+((1:Nat):Int)).toNat - (i:Int).toNat by omega)).trans (by omega)) (by rw [List.length_drop,hrl];exact Nat.le_refl _) (by omega) (by rw [hrl];omega) (by omega) rfl) (by intro q hq;simp only [Bool.or_eq_true,beq_iff_eq,or_self] at hq;subst hq;kernel_rfl) (ob_one (by decide)) ?_
   repeat' (first|refine jx7 ?_|refine jy1 ?_ ?_|exact spF|refine spQ fun hq hq'=>?_|fail)
   repeat' (first|refine jx5 ?_|refine jy0 ?_ ?_|exact spF|refine spQ fun hq hq'=>?_|refine spN fun hn=>?_|fail)
   refine rn_any (gd_n rfl rfl) rfl (lop_cp_c (ob:=1000) (d:=i) (c:=c) (k:=1) rfl inferInstance inferInstance rfl rfl rfl (by show 0+(i:Int).toNat * 10=i * 10;rw [Nat.zero_add];rfl) ((src_osl (x:=.tmp 81) (rows:=[kR x]) (lo:=0) (len:=1) rfl rfl rfl (Nat.le_refl _)).n (Nat.succ_pos 0)) (by show Nat.min 1 (((l.length:Int)+((1:Nat):Int)).toNat - (i:Int).toNat)=1;exact Nat.min_eq_left (by omega)) (Nat.le_refl 1) (by decide) (Nat.le_trans (show i≤l.length+1 by omega) (Nat.le_of_eq hRl.symm)) (by omega) rfl) ?_
   as_aux_lemma=>
    repeat' (first|refine jx5 ?_|refine jy0 ?_ ?_|exact spF|refine spQ fun hq hq'=>?_|refine spN fun hn=>?_|fail)
    exact ⟨_,says_uncap (t:=6) (o:=1000) (c:=c) rfl rfl rfl (Eq.trans (show ((l.length:Int)+((1:Nat):Int)).toNat=l.length+1 by omega) hR2.symm),RetO.mk (ot1 rfl rfl (.one (.kosl rfl)) (by rw [show ((l.length:Int)+((1:Nat):Int)).toNat=l.length+1 by omega])) ⟨.buf,.buf,trivial⟩⟩
end Go.Proofs.YtkgploeegbmofaaGreat.Wi
namespace Go.Aw
open Go Go.RowKit
set_option linter.unusedVariables false
set_option linter.unusedSimpArgs false
theorem lop_store_rowp {C:Ctx} {o:Oper} {σ:St} {T:TypeId} {x y:Operand} {k:TK} {sz by_:Nat} [hT:TI C.P T k sz by_] {ob g n ty i es d:Nat} {rows:List (List PVal)} {old part:List PVal} {s:SV} (ho:o.op=.store T x y) (hdst:o.dst=none) (hx:σ.look x=.o (.ptr ob g (i * es+d))) (hy:σ.look y=.s s)
  (hsc:s.cells=part.map .p) (hrl:part.length=sz) (hm:σ.mem ob=(n,some (.buf ty es rows))) (hn:n=g+1) (hi:rows[i]?=some old) (hde:d+sz≤es):LOp C o σ ⟨.un,[(ob,(n,some (.buf ty es (rows.set i (old.take d++part++old.drop (d+sz))))))]⟩ (fun z=>z == ob):=
 lop_same (by simp) (by rw [hdst];rfl) hm fun τ a w G g0 m hl' hm' h hng hmm hh=>by
  subst hn
  obtain rfl:g=g0:=by omega
  obtain ⟨b,c',h1,h2⟩:=look_of h ((hl' x (by simp [ho,Op.operands])).trans hx)
  have h3:s.holds G.μ ⟨w,G.S⟩ (a.eval y):=look_of h ((hl' y (by simp [ho,Op.operands])).trans hy)
  obtain ⟨hes,hmax,hrl2,hh⟩:=hh
  rw [h1] at hmm;obtain rfl:=Option.some.inj hmm
  have hil:i < rows.length:=(List.getElem?_eq_some_iff.1 hi).1
  rcases hh with ⟨h4,_⟩ | ⟨b',arr,h4,h5,h6,h7,h8⟩
  ·simp at h4
  ·simp only [Option.some.injEq] at h4;subst h4
   have h9:=h3.cells
   rw [hsc] at h9
   have hvl:(a.eval y).cells.toList.length=sz:=by rw [← h9.1];simpa using hrl
   have hone:∀ u∈(a.eval y).cells.toList,u.oneCell'=true:=fun u hu=>by
    obtain ⟨j,hj,hu'⟩:=List.mem_iff_getElem.1 hu
    have hj':j < (part.map AC.p).length:=by rw [h9.1];exact hj
    exact (h9.2 j (part.map AC.p)[j] u (by simp [hj']) (by rw [← hu'];exact List.getElem?_eq_getElem _)).one
   have hmul:i * es+es≤arr.size:=by
    simp only at h7 hrl2
    rw [h7]
    calc i * es+es=(i+1) * es:=by rw [Nat.add_mul,Nat.one_mul]
     _≤c' * es:=Nat.mul_le_mul_right _ (by omega)
   have hsz:arr.toList.length=arr.size:=Array.length_toList
   have h6':w.heap[b]?=some (.cells arr.toList.toArray ty (0,0)):=by simpa using h6
   have hr:=run_storeVar hT h6' (off:=i * es+d) (v:=a.eval y) (by rw [hsz];omega) (by simpa using hvl) hone
   have hle:Wd.le ⟨w,G.S⟩ ⟨w.setRow b (arr.toList.take (i * es+d)++(a.eval y).cells.toList++arr.toList.drop (i * es+d+sz)).toArray,G.S⟩:=fun k hk=>
    ⟨hk,setRow_other w b k _ fun e=>h.stab ob b (by rw [h5];simp) (e ▸ hk)⟩
   have htl:(arr.toList.take (i * es+d)).length=i * es+d:=by rw [List.length_take];omega
   have hget:∀ (t:Nat) v,arr[t]?=some v→(t < i * es+d∨i * es+d+sz≤t)→(arr.toList.take (i * es+d)++(a.eval y).cells.toList++arr.toList.drop (i * es+d+sz))[t]?=some v:=fun t v hv ht=>by
    rw [List.append_assoc]
    rcases ht with ht|ht
    ·rw [List.getElem?_append_left (by omega),List.getElem?_take,if_pos ht];simpa using hv
    ·rw [List.getElem?_append_right (by omega),htl,List.getElem?_append_right (by omega),hvl,List.getElem?_drop]
     rw [show i * es+d+sz+(t - (i * es+d) - sz)=t by omega];simpa using hv
   refine ⟨.skip,undef,w.setRow b (arr.toList.take (i * es+d)++(a.eval y).cells.toList++arr.toList.drop (i * es+d+sz)).toArray,?_,.inr ⟨rfl,rfl⟩,setRow_frame.1,setRow_frame.2.1,setRow_frame.2.2.1,setRow_frame.2.2.2,
    fun k _ hk=>setRow_other w b k _ fun e=>hk (by rw [h5,e];simp),⟨hes,hmax,by simpa using hrl2,.inr ⟨b,_,rfl,h5,setRow_heap w b _ _ ty _ h6',?_,?_⟩⟩,trivial⟩
   ·simp only [execOp,ho,h2,Instr.storeAt,Instr.sureAddr,Sem.run_bind,Sem.run_pure,Result.andThen_ok,hr]
   ·simp only [List.size_toArray,List.length_append,List.length_take,List.length_drop,Array.length_toList,hvl]
    rw [Nat.min_eq_left (by omega)]
    simp only at h7;omega
   ·intro q r hq
    by_cases hqi:q=i
    ·subst hqi
     rw [List.getElem?_set_self hil] at hq
     obtain rfl:=Option.some.inj hq
     obtain ⟨e1,e2⟩:=h8 q old hi
     have hol:(old.take d).length=d:=by rw [List.length_take];omega
     refine ⟨by rw [List.length_append,List.length_append,hol,hrl,List.length_drop];omega,fun j p hp=>?_⟩
     simp only [Nat.zero_add,List.getElem?_toArray]
     by_cases hj1:j < d
     ·rw [List.append_assoc,List.getElem?_append_left (by omega),List.getElem?_take,if_pos hj1] at hp
      obtain ⟨v,hv,hpv⟩:=e2 j p hp
      rw [Nat.zero_add] at hv
      exact ⟨v,hget _ v hv (.inl (by omega)),p.mono hle hpv⟩
     ·by_cases hj2:j < d+sz
      ·rw [List.append_assoc,List.getElem?_append_right (by omega),hol,List.getElem?_append_left (by omega)] at hp
       obtain ⟨v,hv,hpv⟩:=h9.get (i:=j - d) (a:=.p p) (by simp [hp])
       refine ⟨v,?_,p.mono hle hpv⟩
       rw [List.append_assoc,List.getElem?_append_right (by omega),htl,List.getElem?_append_left (by omega),← hv]
       congr 1;omega
      ·rw [List.append_assoc,List.getElem?_append_right (by omega),hol,List.getElem?_append_right (by omega),hrl,List.getElem?_drop] at hp
       rw [show d+sz+(j - d - sz)=j by omega] at hp
       obtain ⟨v,hv,hpv⟩:=e2 j p hp
       rw [Nat.zero_add] at hv
       exact ⟨v,hget _ v hv (.inr (by omega)),p.mono hle hpv⟩
    ·rw [List.getElem?_set_ne (fun e=>hqi e.symm)] at hq
     obtain ⟨e1,e2⟩:=h8 q r hq
     refine ⟨e1,fun j p hp=>?_⟩
     obtain ⟨v,hv,hpv⟩:=e2 j p hp
     have hj:j < es:=by rw [← e1];exact (List.getElem?_eq_some_iff.1 hp).1
     simp only [Nat.zero_add,List.getElem?_toArray]
     rw [Nat.zero_add] at hv
     refine ⟨v,hget _ v hv ?_,p.mono hle hpv⟩
     rcases Nat.lt_or_ge q i with hlt|hge
     ·have:q * es+es≤i * es:=by
       calc q * es+es=(q+1) * es:=by rw [Nat.add_mul,Nat.one_mul]
        _≤i * es:=Nat.mul_le_mul_right _ hlt
      left;omega
     ·have:i * es+es≤q * es:=by
       calc i * es+es=(i+1) * es:=by rw [Nat.add_mul,Nat.one_mul]
        _≤q * es:=Nat.mul_le_mul_right _ (by omega)
      right;omega
end Go.Aw
namespace Go.Proofs.YtkgploeegbmofaaGreat.Wi
open Go Go.RowKit Go.Aw Go.Aw.Cart Go.Proofs.YtkgploeegbmofaaGreat.Ca
set_option linter.unusedVariables false
set_option linter.unusedSimpArgs false
set_option maxRecDepth 8000
set_option maxHeartbeats 4000000
theorem lop_st_kd {C:Ctx} {o:Oper} {σ:St} {T:TypeId} {x y:Operand} {k:TK} {sz by_:Nat} {ob g n ty i:Nat} {l:List Kd} {c:Crt} (ho:o.op=.store T x y) (hT:TI C.P T k sz by_) (hdst:o.dst=none) (hx:σ.look x=.o (.ptr ob g (i * 10+1))) (hy:σ.look y=.a (cL c.1 c.2 false)) (hm:σ.mem ob=(n,some (.buf ty 10 (l.map kR)))) (hs:sz=9) (hn:n=g+1) (hi:i < l.length) :
  LOp C o σ ⟨.un,[(ob,(n,some (.buf ty 10 ((l.set i ((l.getD i default).1,c)).map kR))))]⟩ (fun z=>z == ob):=by
 have hg:(l.map kR)[i]?=some (kR (l.getD i default)):=by rw [List.getElem?_map,List.getElem?_eq_getElem hi,getD_at hi];rfl
 have:=lop_store_rowp (C:=C) (o:=o) (d:=1) (part:=(kR ((l.getD i default).1,c)).drop 1) ho hdst hx hy rfl (by rw [hs];rfl) hm hn hg (by omega)
 rw [hs] at this
 have e:(kR (l.getD i default)).take 1++(kR ((l.getD i default).1,c)).drop 1++(kR (l.getD i default)).drop (1+9)=kR ((l.getD i default).1,c):=rfl
 rwa [e,← List.map_set] at this
theorem setK_len (l:List Kd) (k:List Nat) (c:Crt):(setK l k c).length=l.length:=List.length_map _
theorem setK_id {l:List Kd} {k:List Nat} {c:Crt} (h:hasK l k=false):setK l k c=l:=by
 have hno:∀ e∈l,e.1≠k:=fun e he q=>by
  have:=hasK_iff.2 ⟨e,he,q⟩
  rw [h] at this;cases this
 unfold setK
 conv=>rhs;rw [← List.map_id l]
 exact List.map_congr_left fun e he=>by rw [if_neg (hno e he)];rfl
theorem hasK_step {l:List Kd} {k:List Nat} {i:Nat} (h:i < l.length):hasK (l.take (i+1)) k=(hasK (l.take i) k||decide ((l.getD i default).1=k)):=by
 unfold hasK
 rw [List.take_succ_eq_append_getElem h,List.any_append,getD_at h];simp
theorem cur_at {l:List Kd} {k:List Nat} {c:Crt} {i:Nat} (h:i < l.length):(setK (l.take i) k c++l.drop i).getD i default=l.getD i default:=by
 have hl:(setK (l.take i) k c).length=i:=by rw [setK_len,List.length_take];omega
 rw [List.getD_eq_getElem?_getD,List.getElem?_append_right (by omega),hl,Nat.sub_self,List.getElem?_drop,Nat.add_zero,← List.getD_eq_getElem?_getD]
theorem cur_len (l:List Kd) (k:List Nat) (c:Crt) {i:Nat} (h:i≤l.length):(setK (l.take i) k c++l.drop i).length=l.length:=by
 rw [List.length_append,setK_len,List.length_take,List.length_drop];omega
theorem cur_step {l:List Kd} {k:List Nat} {c:Crt} {i:Nat} (h:i < l.length):setK (l.take (i+1)) k c++l.drop (i+1)=if (l.getD i default).1=k then (setK (l.take i) k c++l.drop i).set i ((l.getD i default).1,c) else setK (l.take i) k c++l.drop i:=by
 have hl:(setK (l.take i) k c).length=i:=by rw [setK_len,List.length_take];omega
 have e1:setK (l.take (i+1)) k c=setK (l.take i) k c++[if (l.getD i default).1=k then ((l.getD i default).1,c) else l.getD i default]:=by
  unfold setK
  rw [List.take_succ_eq_append_getElem h,List.map_append,getD_at h];rfl
 have e2:l.drop i=l.getD i default::l.drop (i+1):=by rw [List.drop_eq_getElem_cons h,getD_at h]
 rw [e1]
 split
 ·rw [e2,List.set_append_right _ _ (by omega),hl,Nat.sub_self,List.set_cons_zero,List.append_assoc];rfl
 ·conv=>rhs;rw [e2]
  rw [List.append_assoc];rfl
theorem gt_is {k:List Nat}:∀ {l:List Kd} {i:Nat},i < l.length→bLt k (l.getD i default).1=true→(∀ j,j < i→bLt k (l.getD j default).1=false)→gtI l k=i
 | [],i,h,_,_=>absurd h (Nat.not_lt_zero _)
 | e::l,0,h,hk,_=>by
  have hk':bLt k e.1=true:=hk
  rw [gtI,if_pos hk']
 | e::l,i+1,h,hk,hno=>by
  have h0:bLt k e.1=false:=hno 0 (by omega)
  rw [gtI,if_neg (by rw [h0];simp),gt_is (l:=l) (i:=i) (by simpa using h) hk fun j hj=>hno (j+1) (by omega)]
theorem gt_none {k:List Nat}:∀ {l:List Kd},(∀ j,j < l.length→bLt k (l.getD j default).1=false)→gtI l k=l.length
 | [],_=>rfl
 | e::l,hno=>by
  have h0:bLt k e.1=false:=hno 0 (by simp)
  rw [gtI,if_neg (by rw [h0];simp),gt_none (l:=l) fun j hj=>hno (j+1) (by simpa using hj)];rfl
namespace WE
theorem lopC {C:Ctx} {o:Oper} {σ:St} {e:Eff} {ro:Nat→Bool} (h:LOp C o σ e ro:=by
  first|(apply lop_lend2;(focus rfl);(focus exact inferInstance);(focus rfl);(focus rfl);(focus rfl);(focus exact (List.length_map ..).symm);(focus first|exact lk_m1 rfl|exact lk_m2 rfl|exact lk_m3 rfl|exact lk_o rfl|exact lk_a2 rfl|exact lk_a3 rfl|exact lk_a4 rfl|exact lk_a1 rfl|exact lk_a5 rfl|exact lk_a6 rfl|exact lk_a7 rfl|exact lk_a8 rfl|exact lk_a rfl);(focus exact inferInstance);(focus exact inferInstance);(focus first|exact True.intro|assumption|rfl|omega|((repeat' (first|assumption|refine And.intro ?_ ?_|omega|rfl));done)|fail);(focus exact RV.v);(focus rfl))|exact WD.lopC|fail):LOp C o σ e ro:=h
section steps
variable {C:Ctx} {ops:Array Oper} {o:Oper} {rest:List Oper} {K:St→Prop} {σ:St} {e:Eff} {ro:Nat→Bool} {W:List (Nat × Nat)} {i:Nat}
theorem rnC {d:Nat} (hg:Guard ops σ o true:=by first|exact gd_n rfl rfl|exact gd_t rfl rfl rfl rfl|exact gd_t rfl rfl rfl (by assumption)) (hd:o.dst=some d:=by rfl) (h:LOp C o σ e ro:=by exact lopC) (hk:RunN C ops rest K (e.app (some d) σ)):RunN C ops (o::rest) K σ:=rn_any hg hd h hk
theorem rkC {d:Nat} (hg:Guard ops σ o true:=by first|exact gd_n rfl rfl|exact gd_t rfl rfl rfl rfl|exact gd_t rfl rfl rfl (by assumption)) (hd':o.dst=some d:=by rfl) (hd:dOk C o.dst=true:=by rfl) (h:LOp C o σ e ro:=by exact lopC) (hro:∀ x,ro x=true→okObj ops W i x=true:=by first|exact fun _=>ro_none|exact ro_one rfl|exact ro_k1 rfl|exact ro_one (by kernel_rfl)|exact ro_k1 (by kernel_rfl)|exact ro_kIn (by decide)) (hob:∀ p∈e.obj,(i,p.1)∈W:=by first|exact ob_none|exact ob_one (by decide)|decide) (hk:RunK C ops W (i+1) rest K (e.app (some d) σ)):RunK C ops W i (o::rest) K σ:=rk_wr hg hd' hd h hro hob hk
end steps
end WE
open WE
theorem cloneE_w (l:List Ent) (ex:Bool) (h:l.length≤1000000):PCall Tryz.prog 139 [.p (.sl 4 (l.map eR) ex)] (.p (.sl 4 (l.map eR) false)):=by
 refine pcall_of Tryz.func139 rfl (fun w0 F S0 M0=>?_)
 as_aux_lemma=>
  repeat' (first|refine jx5 ?_|refine jy0 ?_ ?_|exact spF|refine spQ fun hq hq'=>?_|refine spN fun hn=>?_|fail)
  ·have e:l=[]:=List.eq_nil_of_length_eq_zero (by have:=congrArg List.length hn;rwa [List.length_map,List.length_nil] at this)
   subst e
   exact rt1 rfl rfl (.one .nil) rfl
  ·exact rt1 rfl rfl finS_p rfl
theorem with_w (l:List Kd) (ex:Bool) (x:Kd) (ex2:Bool) (hl:l.length≤100000) (hin:∀ k∈l,okB k.1) (hk:okB x.1) (hc:x.2.2.length≤1000000):PCall Tryz.prog 102 [.p (.sl 10 (l.map kR) ex),.p (.v (.string (strOf x.1))),cV x.2.1 x.2.2 ex2] (.p (.sl 10 ((withK l x.1 x.2).map kR) false)):=by
 refine pcall_of Tryz.func102 rfl (fun w0 F S0 M0=>?_)
 haveI:PC Tryz.prog 139 [.p (.sl 4 (x.2.2.map eR) ex2)] True (.p (.sl 4 (x.2.2.map eR) false)):=⟨fun _=>cloneE_w _ _ hc⟩
 obtain ⟨A,hA⟩:∃ A,A=idxK (fun e=>bLt x.1 e.1) l 0 l.length:=⟨_,rfl⟩
 haveI:PC Tryz.prog 140 [.p (.sl 10 (l.map kR) false),.p (.fnv 141 [.bx [.v (.string (strOf x.1))] 0])] True (.p (.i A)):=⟨fun _=>by rw [hA];exact indexFuncK_w _ _ inferInstance (fun e=>bLt x.1 e.1) l false (by omega) fun e he=>with1_w e x.1 (hin e he) hk⟩
 repeat' (first|refine jx5 ?_|refine jy0 ?_ ?_|exact spF|refine spQ fun hq hq'=>?_|refine spN fun hn=>?_|fail)
 refine aws_loopS [8,9,19,20,21,22,23,24,25,26,27,28,29,30,31,32,33,34] [16] (fun (y:Nat × List Kd × Bool)=>[(19,.p (.i y.1)),(8,.p (.b y.2.2))]) (fun y=>[(16,(2,some (.buf 123 10 (y.2.1.map kR))))]) (fun y=>y.1≤l.length∧y.2.1=setK (l.take y.1) x.1 x.2++l.drop y.1∧y.2.2=hasK (l.take y.1) x.1) (fun y=>l.length - y.1) (0,l,false) ⟨Nat.zero_le _,rfl,rfl⟩ (by exact knA) (by exact knA) ?_
 rintro ⟨i,cur,b⟩ β γ ⟨hi,hcur,hb⟩
 dsimp only at hi hcur hb ⊢
 have hcl:cur.length=l.length:=by rw [hcur];exact cur_len l x.1 x.2 hi
 by_cases hil:i < l.length
 ·have d1:decide ((i:Int) < (l.length:Int))=true:=decide_eq_true (by omega)
  have ei:(i:Int).toNat=i:=Int.toNat_natCast i
  have hg:cur.getD (i:Int).toNat default=l.getD i default:=by rw [ei,hcur];exact cur_at hil
  have okc:okB (cur.getD (i:Int).toNat default).1:=by rw [hg,getD_at hil];exact hin _ (List.getElem_mem _)
  have hst:=cur_step (k:=x.1) (c:=x.2) hil
  have hbs:=hasK_step (k:=x.1) hil
  rw [← hcur] at hst
  rw [← hb] at hbs
  rw [← hg] at hst hbs
  by_cases he:(cur.getD (i:Int).toNat default).1=x.1
  ·have d2:decide ((cur.getD (i:Int).toNat default).1=x.1)=true:=decide_eq_true he
   rw [if_pos he] at hst
   rw [d2,Bool.or_true] at hbs
   repeat' (first|refine jx6 ?_|refine jy0 ?_ ?_|exact spF|refine spQ fun hq hq'=>?_|refine spN fun hn=>?_|fail)
   refine rn_sto (gd_n rfl rfl) rfl (lop_st_kd (ob:=16) (i:=(i:Int).toNat) (c:=x.2) rfl inferInstance rfl rfl rfl rfl rfl rfl (by omega)) ?_
   as_aux_lemma=>
    repeat' (first|refine jx5 ?_|refine jy0 ?_ ?_|exact spF|refine spQ fun hq hq'=>?_|refine spN fun hn=>?_|fail)
    exact ⟨(i+1,cur.set (i:Int).toNat ((cur.getD (i:Int).toNat default).1,x.2),true),_,by dsimp only;omega,⟨by dsimp only;omega,by dsimp only;rw [hst,ei],hbs.symm⟩,.refl,by exact frA⟩
  ·have d2:decide ((cur.getD (i:Int).toNat default).1=x.1)=false:=decide_eq_false he
   rw [if_neg he] at hst
   rw [d2,Bool.or_false] at hbs
   as_aux_lemma=>
    repeat' (first|refine jx6 ?_|refine jy0 ?_ ?_|exact spF|refine spQ fun hq hq'=>?_|refine spN fun hn=>?_|fail)
    exact ⟨(i+1,cur,b),_,by dsimp only;omega,⟨by dsimp only;omega,hst.symm,hbs.symm⟩,.refl,by exact frA⟩
 ·have d1:decide ((i:Int) < (l.length:Int))=false:=decide_eq_false (by omega)
  obtain rfl:i=l.length:=by omega
  rw [List.take_length,List.drop_length,List.append_nil] at hcur
  rw [List.take_length] at hb
  unfold withK
  cases b with
  | true=>
   rw [if_pos hb.symm,← hcur]
   clear hcur hA hin
   as_aux_lemma=>
    repeat' (first|refine jx6 ?_|refine jy0 ?_ ?_|exact spF|refine spQ fun hq hq'=>?_|refine spN fun hn=>?_|fail)
    exact rt1 rfl rfl (.one (finC_map rfl rfl rfl (by omega))) rfl
  | false=>
   rw [if_neg (by rw [← hb];simp)]
   rw [setK_id hb.symm] at hcur
   subst hcur
   have hin1:∀ j,j < cur.length→okB (cur.getD j default).1:=fun j hj=>by rw [getD_at hj];exact hin _ (List.getElem_mem _)
   have ins:∀ i0:Nat,i0≤cur.length→OCAt Tryz.prog 142 [.o (.osl 16 1 10 0 cur.length),.p (.i (i0:Int)),.o (.osl 49 0 10 0 1)] [(16,(2,some (.buf 123 10 (cur.map kR)))),(49,(1,some (.buf 123 10 [kR x])))] [] (.o (.osl 16 2 10 0 (cur.take i0++x::cur.drop i0).length)) [(16,(3,some (.buf 123 10 ((cur.take i0++x::cur.drop i0).map kR)))),(49,(1,some (.buf 123 10 [kR x])))]:=fun i0 h0=>(insert_o 1 0 cur x i0 h0 (by omega)).two 16 49 (by decide)
   rcases idxK_found (p:=fun e=>bLt x.1 e.1) (l:=cur) cur.length 0 (by omega) with ⟨h1,h2⟩ | ⟨i0,h1 , -,h3,h4,h5⟩
   ·rw [← hA] at h1
    rw [gt_none fun j hj=>h2 j (Nat.zero_le _) hj]
    have hI:=ins cur.length (Nat.le_refl _)
    have d2:decide (A < 0)=true:=decide_eq_true (by omega)
    clear hA h2 hin hin1 ins h1
    repeat' (first|refine jx5 ?_|refine jy0 ?_ ?_|exact spF|refine spQ fun hq hq'=>?_|refine spN fun hn=>?_|fail)
    refine rn_any (gd_n rfl rfl) rfl (lop_ocall rfl inferInstance (.cons rfl (.cons rfl (.cons rfl .nil))) hI (by intro p hp;simp only [List.mem_cons,List.not_mem_nil,or_false] at hp;rcases hp with rfl|rfl<;>rfl) (by intro p hp;cases hp) (by intro p hp;simp only [List.mem_cons,List.not_mem_nil,or_false] at hp;rcases hp with rfl|rfl<;>rfl) (by intro p hp;cases hp) rfl) ?_
    as_aux_lemma=>
     repeat' (first|refine jx5 ?_|refine jy0 ?_ ?_|exact spF|refine spQ fun hq hq'=>?_|refine spN fun hn=>?_|fail)
     exact rt1 rfl rfl (.one (finC_map rfl rfl rfl rfl)) rfl
   ·rw [← hA] at h1
    rw [gt_is h3 h4 fun j hj=>h5 j (Nat.zero_le _) hj]
    have hI:=ins i0 (by omega)
    clear hA h4 h5 hin hin1 ins
    subst h1
    have d2:decide ((i0:Int) < 0)=false:=decide_eq_false (by omega)
    repeat' (first|refine jx5 ?_|refine jy0 ?_ ?_|exact spF|refine spQ fun hq hq'=>?_|refine spN fun hn=>?_|fail)
    refine rn_any (gd_n rfl rfl) rfl (lop_ocall rfl inferInstance (.cons rfl (.cons rfl (.cons rfl .nil))) hI (by intro p hp;simp only [List.mem_cons,List.not_mem_nil,or_false] at hp;rcases hp with rfl|rfl<;>rfl) (by intro p hp;cases hp) (by intro p hp;simp only [List.mem_cons,List.not_mem_nil,or_false] at hp;rcases hp with rfl|rfl<;>rfl) (by intro p hp;cases hp) rfl) ?_
    as_aux_lemma=>
     repeat' (first|refine jx5 ?_|refine jy0 ?_ ?_|exact spF|refine spQ fun hq hq'=>?_|refine spN fun hn=>?_|fail)
     exact rt1 rfl rfl (.one (finC_map rfl rfl rfl rfl)) rfl
end Go.Proofs.YtkgploeegbmofaaGreat.Wi
namespace Go.Proofs.YtkgploeegbmofaaGreat.Wi
open Go Go.RowKit Go.Aw Go.Aw.Sha Go.Aw.Cart Go.Aw.Tree Go.Aw.Clash Go.Proofs.YtkgploeegbmofaaGreat.Ca Go.Proofs.YtkgploeegbmofaaGreat.Rg
set_option linter.unusedVariables false
set_option linter.unusedSimpArgs false
set_option maxRecDepth 8000
set_option maxHeartbeats 4000000
attribute [local irreducible] sum
def addK (o b:List Kd):List Kd:=b.foldl (fun o k=>withK o k.1 k.2) o
theorem addK_snoc (o b:List Kd) {i:Nat} (h:i < b.length):addK o (b.take (i+1))=withK (addK o (b.take i)) (b.getD i default).1 (b.getD i default).2:=by
 unfold addK
 rw [take_snocD h,List.foldl_append];rfl
def cartsTo (l:List Kd) (part:Int) (L:List Int):List Kd:=L.foldl (fun o n=>addK o (ofF' l part n)) []
theorem cartsTo_snoc (l:List Kd) (part:Int) (L:List Int) {i:Nat} (h:i < L.length):cartsTo l part (L.take (i+1))=addK (cartsTo l part (L.take i)) (ofF' l part (L.getD i default)):=by
 unfold cartsTo
 rw [take_snocD h,List.foldl_append];rfl
def cartsF (l:List Kd) (part:Int) (a:List Int):List Kd:=cartsTo l part (leavesL a)
theorem ofF_in {l:List Kd} {part n:Int}:∀ k∈ofF' l part n,k∈l:=by
 intro k hk
 unfold ofF' at hk
 split at hk
 ·rw [show (default:List Kd)=[] from rfl] at hk;exact bk_sub k hk
 ·cases hk
theorem ofF_few {l:List Kd} {part n:Int}:(ofF' l part n).length≤2000:=by
 unfold ofF'
 split
 ·exact (bkts_ok l part _).few
 ·exact Nat.zero_le _
theorem with_key {P:List Nat→Prop} {l:List Kd} {k:List Nat} {c:Crt} (h:∀ e∈l,P e.1) (hk:P k):∀ e∈withK l k c,P e.1:=by
 intro e he
 unfold withK at he
 split at he
 ·obtain ⟨e',h1,rfl⟩:=List.mem_map.1 he
  split
  ·exact h e' h1
  ·exact h e' h1
 ·rcases List.mem_append.1 he with h1|h1
  ·exact h e (List.mem_of_mem_take h1)
  ·rcases List.mem_cons.1 h1 with rfl|h1
   ·exact hk
   ·exact h e (List.mem_of_mem_drop h1)
open T2
theorem carts_w (l:List Kd) (ex:Bool) (part:Int) (a:List Int) (ey:Bool) (h:LIn l) (hf:∀ k∈l,k.2.2.length≤1000000) (ha:a.length≤40):PCall Tryz.prog 65 [.p (.sl 10 (l.map kR) ex),.p (.i part),.p (.sl 1 (a.map iRw) ey)] (.p (.sl 10 ((cartsF l part a).map kR) false)):=by
 refine pcall_of Tryz.func65 rfl (fun w0 F S0 M0=>?_)
 have hL:=leavesL_le a
 have c1:=Cl.leaves_w a ey (by omega)
 unfold cartsF
 generalize leavesL a=L at hL c1 ⊢
 haveI i1:PC Tryz.prog 33 [.p (.sl 1 (a.map iRw) ey)] True (.p (.sl 1 (L.map iRw) false)):=⟨fun _=>c1⟩
 have cOf:=fun n=>of_w l ex part n h
 have kIn:∀ k∈l,okB k.1:=fun k hk=>(h.kd k hk).key
 clear c1
 repeat' (first|refine jx5 ?_|refine jy0 ?_ ?_|exact spF|refine spQ fun hq hq'=>?_|refine spN fun hn=>?_|fail)
 refine aws_says (says_nils (t:=7) (es:=10) rfl) ?_
 refine aws_says (says_inex (t:=7) rfl) ?_
 refine aws_sm [(0,.p (.sl 10 (l.map kR) ex)),(1,.p (.i part)),(7,.p (.sl 10 (([]:List Kd).map kR) false)),(13,.p (.sl 1 (L.map iRw) false)),(14,.p (.i (L.length:Int))),(15,.p (.i 0))] [(11,(0,none))] (by exact knA) (by exact knA) fun ν=>?_
 refine aws_loopS (0::1::13::14::[7,9,11,15,16,17,18,19,20,21,22,23,24,25,26,27,28,29,30,31,32,33,34,35]) [11] (fun (x:Nat × List Kd × Nat × Option MO)=>[(15,.p (.i x.1)),(7,.p (.sl 10 (x.2.1.map kR) false)),(0,.p (.sl 10 (l.map kR) ex)),(1,.p (.i part)),(13,.p (.sl 1 (L.map iRw) false)),(14,.p (.i (L.length:Int)))]) (fun x=>[(11,(x.2.2.1,x.2.2.2))]) (fun x=>x.1≤L.length∧x.2.1=cartsTo l part (L.take x.1)∧x.2.1.length≤2000 * x.1∧∀ k∈x.2.1,okB k.1) (fun x=>L.length - x.1) (0,[],0,none) ⟨Nat.zero_le _,rfl,Nat.le_refl _,fun k hk=>(by cases hk)⟩ (by exact knA) (by exact knA) ?_
 rintro ⟨i,out,g,mo⟩ β γ ⟨hi,hout,hol,hok⟩
 dsimp only at hi hout hol hok ⊢
 by_cases hil:i < L.length
 ·have d1:decide ((i:Int) < (L.length:Int))=true:=decide_eq_true (by omega)
  have hst:=cartsTo_snoc l part L hil
  rw [← hout,show L.getD i default=L.getD (i:Int).toNat default by rw [Int.toNat_natCast]] at hst
  have c2:=cOf (L.getD (i:Int).toNat default)
  have hbl:=ofF_few (l:=l) (part:=part) (n:=L.getD (i:Int).toNat default)
  have hbi:=ofF_in (l:=l) (part:=part) (n:=L.getD (i:Int).toNat default)
  generalize ofF' l part (L.getD (i:Int).toNat default)=B at hst c2 hbl hbi
  haveI i2:PC Tryz.prog 34 [.p (.sl 10 (l.map kR) ex),.p (.i part),.p (.i (L.getD (i:Int).toNat default))] True (.p (.sl 10 (B.map kR) false)):=⟨fun _=>c2⟩
  clear c2 cOf
  repeat' (first|refine jx5 ?_|refine jy0 ?_ ?_|exact spF|refine spQ fun hq hq'=>?_|refine spN fun hn=>?_|fail)
  refine aws_loopS (0::1::13::14::15::22::23::[7,11,24,25,26,27,28,29,30,31,32,33,34]) [11] (fun (x:Nat × List Kd × Nat × Option MO)=>[(24,.p (.i x.1)),(7,.p (.sl 10 (x.2.1.map kR) false)),(0,.p (.sl 10 (l.map kR) ex)),(1,.p (.i part)),(13,.p (.sl 1 (L.map iRw) false)),(14,.p (.i (L.length:Int))),(15,.p (.i i)),(22,.p (.sl 10 (B.map kR) false)),(23,.p (.i (B.length:Int)))]) (fun x=>[(11,(x.2.2.1,x.2.2.2))]) (fun x=>x.1≤B.length∧x.2.1=addK out (B.take x.1)∧x.2.1.length≤2000 * i+x.1∧∀ k∈x.2.1,okB k.1) (fun x=>B.length - x.1) (0,out,g,mo) ⟨Nat.zero_le _,rfl,hol,hok⟩ (by exact knA) (by exact knA) ?_
  clear hok hol
  rintro ⟨j,o2,g2,mo2⟩ β2 γ2 ⟨hj,ho2,hl2,hk2⟩
  dsimp only at hj ho2 hl2 hk2 ⊢
  by_cases hjl:j < B.length
  ·have d2:decide ((j:Int) < (B.length:Int))=true:=decide_eq_true (by omega)
   have hme:B.getD (j:Int).toNat default∈B:=by rw [Int.toNat_natCast,getD_at hjl];exact List.getElem_mem _
   have hst2:=addK_snoc out B hjl
   rw [← ho2,show B.getD j default=B.getD (j:Int).toNat default by rw [Int.toNat_natCast]] at hst2
   have hml:=hbi _ hme
   have c3:=with_w o2 false (B.getD (j:Int).toNat default) false (by omega) hk2 (kIn _ hml) (hf _ hml)
   have hwl:=(with_len_le o2 (B.getD (j:Int).toNat default).1 (B.getD (j:Int).toNat default).2).2
   have hwk:=with_key (P:=okB) (c:=(B.getD (j:Int).toNat default).2) hk2 (kIn _ hml)
   generalize withK o2 (B.getD (j:Int).toNat default).1 (B.getD (j:Int).toNat default).2=N at c3 hst2 hwl hwk
   haveI i3:PC Tryz.prog 102 [.p (.sl 10 (o2.map kR) false),.p (.v (.string (strOf (B.getD (j:Int).toNat default).1))),cV (B.getD (j:Int).toNat default).2.1 (B.getD (j:Int).toNat default).2.2 false] True (.p (.sl 10 (N.map kR) false)):=⟨fun _=>c3⟩
   clear c3 hme hml hk2 hbi kIn hst hf h
   as_aux_lemma=>
    repeat' (first|refine jx6 ?_|fail)
    exact ⟨(j+1,N,g2+1,some (.box 123 ((kR (B.getD (j:Int).toNat default)).map .p))),_,by dsimp only;omega,⟨by dsimp only;omega,hst2.symm,by dsimp only;omega,hwk⟩,.refl,by exact frA⟩
  ·have d2:decide ((j:Int) < (B.length:Int))=false:=decide_eq_false (by omega)
   obtain rfl:j=B.length:=by omega
   rw [List.take_of_length_le (Nat.le_refl _),← hst] at ho2
   clear hbi
   as_aux_lemma=>
    repeat' (first|refine jx5 ?_|refine jy0 ?_ ?_|exact spF|refine spQ fun hq hq'=>?_|refine spN fun hn=>?_|fail)
    exact ⟨(i+1,o2,g2,mo2),_,by dsimp only;omega,⟨by dsimp only;omega,ho2,by dsimp only;omega,hk2⟩,.refl,by exact frA⟩
 ·have d1:decide ((i:Int) < (L.length:Int))=false:=decide_eq_false (by omega)
  obtain rfl:i=L.length:=by omega
  rw [List.take_of_length_le (Nat.le_refl _)] at hout
  rw [← hout]
  clear cOf kIn
  as_aux_lemma=>
   repeat' (first|refine jx5 ?_|refine jy0 ?_ ?_|exact spF|refine spQ fun hq hq'=>?_|refine spN fun hn=>?_|fail)
   exact rt1 rfl rfl finS_p rfl
end Go.Proofs.YtkgploeegbmofaaGreat.Wi
namespace Go.Proofs.YtkgploeegbmofaaGreat.Wi
open Go Go.RowKit Go.Aw Go.Aw.Cart Go.Aw.Tree Go.Proofs.YtkgploeegbmofaaGreat.Ca Go.Proofs.YtkgploeegbmofaaGreat.Rg
set_option linter.unusedVariables false
set_option linter.unusedSimpArgs false
set_option maxRecDepth 8000
set_option maxHeartbeats 4000000
theorem mright_w (m:Msg) (h:MIn m):PCall Tryz.prog 32 [mV m] (.p (.b (rightM m))):=mright_g m h (within_w m h)
end Go.Proofs.YtkgploeegbmofaaGreat.Wi
namespace Go.Proofs.YtkgploeegbmofaaGreat.Ca
open Go Go.RowKit Go.Aw Go.Aw.Cart
set_option linter.unusedVariables false
set_option linter.unusedSimpArgs false
theorem i64_of {n:Int} (h:IntKind.i64.min≤n∧n≤IntKind.i64.max) : -9223372036854775808≤n∧n≤9223372036854775807:=by
 simp only [IntKind.min,IntKind.max,IntKind.signed,IntKind.bits] at h
 simp at h;omega
theorem u64_of {n:Int} (h:IntKind.u64.min≤n∧n≤IntKind.u64.max):0≤n∧n < 18446744073709551616:=by
 simp only [IntKind.min,IntKind.max,IntKind.signed,IntKind.bits] at h
 simp at h;omega
theorem rd_int:Reads Tryz.prog 3 Int (fun n=>[PVal.k .i64 n]) (fun n => -9223372036854775808≤n∧n≤9223372036854775807):=(reads_int inferInstance).imp' id (fun _ _=>rfl) (fun _ h=>i64_of h)
theorem rd_u64:Reads Tryz.prog 116 Int (fun n=>[PVal.k .u64 n]) (fun n=>0≤n∧n < 18446744073709551616):=(reads_int inferInstance).imp' id (fun _ _=>rfl) (fun _ h=>u64_of h)
def vRow (v:List Int):List PVal:=v.map fun n=>PVal.k .u64 n
theorem rd_vec:Reads Tryz.prog 118 (List Int) vRow (fun v=>v.length=8∧∀ n∈v,0≤n∧n < 18446744073709551616):=
 (reads_array (inferInstance:TI Tryz.prog 118 _ _ _) (inferInstance:TI Tryz.prog 116 _ _ _) rfl rd_u64).imp' id (fun l h=>by
  clear h
  unfold vRow
  show List.map _ l=_
  induction l with
  | nil=>rfl
  | cons b l ih=>simp [ih]) (fun l h=>h)
def EB (e:Ent):Prop:=(-9223372036854775808≤e.1∧e.1≤9223372036854775807)∧(-9223372036854775808≤e.2.1∧e.2.1≤9223372036854775807)∧(0≤e.2.2.1∧e.2.2.1 < 18446744073709551616)∧(-9223372036854775808≤e.2.2.2∧e.2.2.2≤9223372036854775807)
theorem rd_ent:Reads Tryz.prog 175 Ent (fun e=>eR e) EB:=
 (reads_struct (inferInstance:TI Tryz.prog 175 _ _ _)
  (readsFs_cons (inferInstance:TI Tryz.prog 3 _ _ _) rd_int (readsFs_cons (inferInstance:TI Tryz.prog 3 _ _ _) rd_int (readsFs_cons (inferInstance:TI Tryz.prog 116 _ _ _) rd_u64 (readsFs_cons (inferInstance:TI Tryz.prog 3 _ _ _) rd_int (readsFs_nil rfl)))))).imp
  (fun x=>(x.1,x.2.1,x.2.2.1,x.2.2.2.1)) (fun x=>rfl) (fun x h=>⟨h.1,h.2.1,h.2.2.1,h.2.2.2.1⟩)
theorem rd_ents:Reads Tryz.prog 119 (List Ent) (fun l=>[.sl 4 (l.map fun e=>eR e) false]) (fun l=>l.length≤maxLen∧∀ e∈l,EB e):=
 reads_slice inferInstance inferInstance (by decide) rd_ent
structure CIn (x:Crt):Prop where
 v8:x.1.length=8
 vb:∀ n∈x.1,0≤n∧n < 18446744073709551616
 len:x.2.length≤maxLen
 eb:∀ e∈x.2,EB e
def cRow (x:Crt):List PVal:=vRow x.1++[.sl 4 (x.2.map fun e=>eR e) false]
theorem rd_cart:Reads Tryz.prog 121 Crt cRow CIn:=
 (reads_struct (inferInstance:TI Tryz.prog 121 _ _ _)
  (readsFs_cons (inferInstance:TI Tryz.prog 118 _ _ _) rd_vec (readsFs_cons (inferInstance:TI Tryz.prog 119 _ _ _) rd_ents (readsFs_nil rfl)))).imp
  (fun x=>(x.1,x.2.1)) (fun x=>by simp [cRow]) (fun x h=>⟨h.1.1,h.1.2,h.2.1.1,h.2.1.2⟩)
theorem CIn.qb {x:Crt} (h:CIn x):∀ e∈x.2,QB e:=fun e he=>(h.eb e he).2.2.2
end Go.Proofs.YtkgploeegbmofaaGreat.Ca
