/- the reference, chapter 06: entries in order, one by one; entries and carts as the reference's -/
import Derived.Test.YtkgploeegbmofaaGreatOVA14
import Derived.Test.YtkgploeegbmofaaGreatOVA06
import Derived.Test.YtkgploeegbmofaaGreatOVA03
import Derived.Test.YtkgploeegbmofaaGreatOVA11
import Derived.Test.YtkgploeegbmofaaGreatOVA12
namespace Go.Proofs.YtkgploeegbmofaaGreat.Cr
open Go Go.RowKit Go.Aw Go.Aw.Cart Go.Aw.Ord Go.Proofs.YtkgploeegbmofaaGreat.Ca
set_option linter.unusedVariables false
set_option linter.unusedSimpArgs false
set_option maxRecDepth 8000
set_option maxHeartbeats 4000000
theorem lopC {C:Ctx} {o:Oper} {σ:St} {e:Eff} {ro:Nat→Bool} (h:LOp C o σ e ro:=by
  first|(apply gField;(focus rfl);exact lop_fieldAddr_p rfl rfl (by decide) rfl rfl)|(apply G.lop_bst2;(focus rfl);(focus exact inferInstance);(focus exact inferInstance);(focus exact inferInstance);(focus rfl);(focus rfl);(focus rfl))|(apply lop_bst4;(focus rfl);(focus exact inferInstance);(focus exact inferInstance);(focus exact inferInstance);(focus rfl);(focus rfl);(focus rfl))|(apply lop_ap_ent;(focus rfl);(focus exact inferInstance);(focus exact inferInstance);(focus exact inferInstance);(focus rfl);(focus rfl);(focus rfl);(focus rfl);(focus rfl);(focus rfl);(focus first|(simp only [maxLen,List.length_append,List.length_cons,List.length_nil,List.length_take,List.length_drop,List.length_map];omega)|omega);(focus first|(simp only [maxLen,List.length_append,List.length_cons,List.length_nil,List.length_take,List.length_drop,List.length_map];omega)|omega);(focus rfl))|exact lopV|fail):LOp C o σ e ro:=h
section steps
variable {C:Ctx} {ops:Array Oper} {o:Oper} {rest:List Oper} {K:St→Prop} {σ:St} {e:Eff} {ro:Nat→Bool} {W:List (Nat × Nat)} {i:Nat}
theorem rnC {d:Nat} (hg:Guard ops σ o true:=by first|exact gd_n rfl rfl|exact gd_t rfl rfl rfl rfl|exact gd_t rfl rfl rfl (by assumption)) (hd:o.dst=some d:=by rfl) (h:LOp C o σ e ro:=by exact lopC) (hk:RunN C ops rest K (e.app (some d) σ)):RunN C ops (o::rest) K σ:=rn_any hg hd h hk
theorem rkC {d:Nat} (hg:Guard ops σ o true:=by first|exact gd_n rfl rfl|exact gd_t rfl rfl rfl rfl|exact gd_t rfl rfl rfl (by assumption)) (hd':o.dst=some d:=by rfl) (hd:dOk C o.dst=true:=by rfl) (h:LOp C o σ e ro:=by exact lopC) (hro:∀ x,ro x=true→okObj ops W i x=true:=by first|exact fun _=>ro_none|exact ro_one rfl|exact ro_one (by kernel_rfl)|exact ro_kIn (by decide)) (hob:∀ p∈e.obj,(i,p.1)∈W:=by first|exact ob_none|exact ob_one (by decide)|decide) (hk:RunK C ops W (i+1) rest K (e.app (some d) σ)):RunK C ops W i (o::rest) K σ:=rk_wr hg hd' hd h hro hob hk
end steps
end Go.Proofs.YtkgploeegbmofaaGreat.Cr
namespace Go.Proofs.YtkgploeegbmofaaGreat.Cr
open Go Go.RowKit Go.Aw Go.Aw.Cart Go.Aw.Ord Go.Proofs.YtkgploeegbmofaaGreat.Ca
set_option linter.unusedVariables false
set_option linter.unusedSimpArgs false
set_option maxRecDepth 8000
set_option maxHeartbeats 4000000
theorem entries_r (l:List Ent) (ex:Bool) (h:l.length≤1000000):PCall Tryz.prog 161 [.p (.sl 4 (l.map eR) ex)] (.p (.sl 4 (l.map eR) false)):=by
 refine pcall_of Tryz.func161 rfl (fun w0 F S0 M0=>?_)
 repeat' (first|refine jx5 ?_|refine jy0 ?_ ?_|exact spF|refine spQ fun hq hq'=>?_|refine spN fun hn=>?_|fail)
 refine aws_says (says_nil (t:=3) (o:=901) (ty:=236) (es:=4) rfl rfl (by decide)) ?_
 refine aws_loopS [3,4,5,6,7,8,9,10,11,12,13,14,15,16,17,18,19,20,21,22,23,24,25,26,27,28,29,30,31,32,33,34] [901] (fun (x:Nat × List Ent)=>[(4,.p (.i x.1)),(3,.o (.osl 901 x.1 4 0 x.2.length))]) (fun x=>[(901,(x.1+1,some (.buf 236 4 (x.2.map eR))))])
  (fun x=>x.1≤l.length∧x.2=l.take x.1) (fun x=>l.length - x.1) (0,[]) ⟨Nat.zero_le _,rfl⟩ (by exact knA) (by exact knA) ?_
 rintro ⟨i,m⟩ β γ ⟨hi,hm⟩
 simp only at hi hm
 have hml:m.length=i:=by rw [hm,List.length_take];omega
 dsimp only
 by_cases hil:i < l.length
 ·have hd:decide ((i:Int) < (l.length:Int))=true:=decide_eq_true (by omega)
  repeat' (first|refine jx5 ?_|refine jy0 ?_ ?_|exact spF|refine spQ fun hq hq'=>?_|refine spN fun hn=>?_|fail)
  refine aws_draws [(23,901)] mixed (by kernel_rfl) ?_
  repeat' (first|refine jx7 ?_|refine jy1 ?_ ?_|exact spF|refine spQ fun hq hq'=>?_|fail)
  as_aux_lemma=>
   repeat' (first|refine jx5 ?_|refine jy0 ?_ ?_|exact spF|refine spQ fun hq hq'=>?_|refine spN fun hn=>?_|fail)
   refine ⟨(i+1,m++[(_,_,_,_)]),_,by dsimp only;omega,⟨by dsimp only;omega,?_⟩,.refl,by exact frA⟩
   dsimp only
   rw [hm,take_get' hil,Int.toNat_natCast]
 ·have hd:decide ((i:Int) < (l.length:Int))=false:=decide_eq_false (by omega)
  have hm':l=m:=by rw [hm,List.take_of_length_le (by omega)]
  rw [hm']
  rw [hm'] at hd
  as_aux_lemma=>
   repeat' (first|refine jx5 ?_|refine jy0 ?_ ?_|exact spF|refine spQ fun hq hq'=>?_|refine spN fun hn=>?_|fail)
   exact rt1 rfl rfl (.one (finC_map rfl rfl rfl rfl)) rfl
instance {l:List Ent} {ex:Bool}:PC Tryz.prog 161 [.p (.sl 4 (l.map eR) ex)] (l.length≤1000000) (.p (.sl 4 (l.map eR) false)):=⟨entries_r l ex⟩
theorem as_r (v:List Int) (l:List Ent) (ex:Bool) (h:l.length≤1000000):PCall Tryz.prog 127 [cV v l ex] (cV v l false):=by
 refine pcall_of Tryz.func127 rfl (fun w0 F S0 M0=>?_)
 repeat' (first|refine jx5 ?_|refine jy0 ?_ ?_|exact spF|refine spQ fun hq hq'=>?_|refine spN fun hn=>?_|fail)
 refine aws_draws [(6,2)] mixed (by kernel_rfl) ?_
 repeat' (first|refine jx7 ?_|refine jy1 ?_ ?_|exact spF|refine spQ fun hq hq'=>?_|fail)
 as_aux_lemma=>
  repeat' (first|refine jx5 ?_|refine jy0 ?_ ?_|exact spF|refine spQ fun hq hq'=>?_|refine spN fun hn=>?_|fail)
  exact rc1 rfl rfl rfl rfl rfl rfl finL_p rfl
theorem same_r (v w:List Int) (l m:List Ent) (ex ey:Bool) (hv:v.length=8) (hw:w.length=8) (h:l.length≤1000000000):PCall Tryz.prog 128 [cV v l ex,cV w m ey] (.p (.b (sameF v w l m))):=by
 refine pcall_of Tryz.func128 rfl (fun w0 F S0 M0=>?_)
 have e:=vEqV v w hv hw
 unfold sameF
 by_cases hvw:v=w
 ·rw [decide_eq_true hvw] at e
  have e2:=congrArg not e
  rw [Bool.not_true] at e2
  rw [decide_eq_true hvw,Bool.true_and]
  by_cases hlm:l.length=m.length
  ·have d1:decide ((l.length:Int)≠(m.length:Int))=false:=decide_eq_false (by omega)
   repeat' (first|refine jx6 ?_|refine jy0 ?_ ?_|exact spF|refine spQ fun hq hq'=>?_|refine spN fun hn=>?_|fail)
   refine aws_loopS [4,5,20,21,22,23,24,25,26,27,28,29,30,31,32,33,34,35,36,37] [] (fun (i:Nat)=>[(5,.p (.i i))]) (fun _=>[]) (fun i=>i≤l.length∧∀ j,j < i→l.getD j default=m.getD j default) (fun i=>l.length - i) 0 ⟨Nat.zero_le _,fun j hj=>absurd hj (Nat.not_lt_zero _)⟩ (by exact knA) (by exact knA) ?_
   rintro i β γ ⟨hi,hx⟩
   by_cases hil:i < l.length
   ·have hlt:decide ((i:Int) < (l.length:Int))=true:=decide_eq_true (by omega)
    have hd:=vEqE (l.getD (i:Int).toNat default) (m.getD (i:Int).toNat default)
    by_cases hq:l.getD (i:Int).toNat default=m.getD (i:Int).toNat default
    ·rw [decide_eq_true hq] at hd
     have hd2:=congrArg not hd
     rw [Bool.not_true] at hd2
     rw [Int.toNat_natCast] at hq
     repeat' (first|refine jx6 ?_|refine jy0 ?_ ?_|exact spF|refine spQ fun hq hq'=>?_|refine spN fun hn=>?_|fail)
     refine ⟨i+1,_,by omega,⟨by omega,fun j hj=>?_⟩,.refl,by exact frA⟩
     by_cases ej:j=i
     ·rw [ej];exact hq
     ·exact hx j (by omega)
    ·rw [decide_eq_false hq] at hd
     have hd2:=congrArg not hd
     rw [Bool.not_false] at hd2
     as_aux_lemma=>
      repeat' (first|refine jx6 ?_|refine jy0 ?_ ?_|exact spF|refine spQ fun hq hq'=>?_|refine spN fun hn=>?_|fail)
      refine rt1 rfl rfl finS_p (rb ?_)
      exact decide_eq_false fun q=>hq (by rw [q])
   ·have hlt:decide ((i:Int) < (l.length:Int))=false:=decide_eq_false (by omega)
    as_aux_lemma=>
     repeat' (first|refine jx6 ?_|refine jy0 ?_ ?_|exact spF|refine spQ fun hq hq'=>?_|refine spN fun hn=>?_|fail)
     refine rt1 rfl rfl finS_p (rb ?_)
     refine decide_eq_true (List.ext_getElem hlm fun j h1 h2=>?_)
     have:=hx j (by omega)
     rw [List.getD_eq_getElem?_getD,List.getD_eq_getElem?_getD,List.getElem?_eq_getElem h1,List.getElem?_eq_getElem h2] at this
     exact this
  ·have d1:decide ((l.length:Int)≠(m.length:Int))=true:=decide_eq_true (by omega)
   as_aux_lemma=>
    repeat' (first|refine jx6 ?_|refine jy0 ?_ ?_|exact spF|refine spQ fun hq hq'=>?_|refine spN fun hn=>?_|fail)
    refine rt1 rfl rfl finS_p (rb ?_)
    exact decide_eq_false fun q=>hlm (by rw [q])
 ·rw [decide_eq_false hvw] at e
  have e2:=congrArg not e
  rw [Bool.not_false] at e2
  rw [decide_eq_false hvw,Bool.false_and]
  as_aux_lemma=>
   repeat' (first|refine jx6 ?_|refine jy0 ?_ ?_|exact spF|refine spQ fun hq hq'=>?_|refine spN fun hn=>?_|fail)
   exact rt1 rfl rfl finS_p rfl
end Go.Proofs.YtkgploeegbmofaaGreat.Cr
namespace Go.Proofs.YtkgploeegbmofaaGreat.Wi
open Go Go.RowKit Go.Aw Go.Aw.Cart Go.Proofs.YtkgploeegbmofaaGreat.Ca
set_option linter.unusedVariables false
set_option linter.unusedSimpArgs false
set_option maxRecDepth 8000
set_option maxHeartbeats 4000000
namespace WI
end WI
open WI
end Go.Proofs.YtkgploeegbmofaaGreat.Wi
namespace Go.Aw
open Go Go.RowKit
set_option linter.unusedVariables false
set_option linter.unusedSimpArgs false
theorem lop_store_rowp {C:Ctx} {o:Oper} {σ:St} {T:TypeId} {x y:Operand} {k:TK} {sz by_:Nat} [hT:TI C.P T k sz by_] {ob g n ty i es d:Nat} {rows:List (List PVal)} {old part:List PVal} {s:SV} (ho:o.op=.store T x y) (hdst:o.dst=none) (hx:σ.look x=.o (.ptr ob g (i * es+d))) (hy:σ.look y=.s s)
  (hsc:s.cells=part.map .p) (hrl:part.length=sz) (hm:σ.mem ob=(n,some (.buf ty es rows))) (hn:n=g+1) (hi:rows[i]?=some old) (hde:d+sz≤es):LOp C o σ ⟨.un,[(ob,(n,some (.buf ty es (rows.set i (old.take d++part++old.drop (d+sz))))))]⟩ (fun z=>z == ob):=
 lop_same (by simp) (by rw [hdst];rfl) hm fun τ a w G g0 m hl' hm' h hng hmm hh=>by
  subst hn
  obtain rfl:g=g0:=by omega
  obtain ⟨b,c',h1,h2⟩:=look_of h ((hl' x (by simp [ho,Op.operands])).trans hx)
  have h3:s.holds G.μ ⟨w,G.S⟩ (a.eval y):=look_of h ((hl' y (by simp [ho,Op.operands])).trans hy)
  obtain ⟨hes,hmax,hrl2,hh⟩:=hh
  rw [h1] at hmm;obtain rfl:=Option.some.inj hmm
  have hil:i < rows.length:=(List.getElem?_eq_some_iff.1 hi).1
  rcases hh with ⟨h4,_⟩ | ⟨b',arr,h4,h5,h6,h7,h8⟩
  ·simp at h4
  ·simp only [Option.some.injEq] at h4;subst h4
   have h9:=h3.cells
   rw [hsc] at h9
   have hvl:(a.eval y).cells.toList.length=sz:=by rw [← h9.1];simpa using hrl
   have hone:∀ u∈(a.eval y).cells.toList,u.oneCell'=true:=fun u hu=>by
    obtain ⟨j,hj,hu'⟩:=List.mem_iff_getElem.1 hu
    have hj':j < (part.map AC.p).length:=by rw [h9.1];exact hj
    exact (h9.2 j (part.map AC.p)[j] u (by simp [hj']) (by rw [← hu'];exact List.getElem?_eq_getElem _)).one
   have hmul:i * es+es≤arr.size:=by
    simp only at h7 hrl2
    rw [h7]
    calc i * es+es=(i+1) * es:=by rw [Nat.add_mul,Nat.one_mul]
     _≤c' * es:=Nat.mul_le_mul_right _ (by omega)
   have hsz:arr.toList.length=arr.size:=Array.length_toList
   have h6':w.heap[b]?=some (.cells arr.toList.toArray ty (0,0)):=by simpa using h6
   have hr:=run_storeVar hT h6' (off:=i * es+d) (v:=a.eval y) (by rw [hsz];omega) (by simpa using hvl) hone
   have hle:Wd.le ⟨w,G.S⟩ ⟨w.setRow b (arr.toList.take (i * es+d)++(a.eval y).cells.toList++arr.toList.drop (i * es+d+sz)).toArray,G.S⟩:=fun k hk=>
    ⟨hk,setRow_other w b k _ fun e=>h.stab ob b (by rw [h5];simp) (e ▸ hk)⟩
   have htl:(arr.toList.take (i * es+d)).length=i * es+d:=by rw [List.length_take];omega
   have hget:∀ (t:Nat) v,arr[t]?=some v→(t < i * es+d∨i * es+d+sz≤t)→(arr.toList.take (i * es+d)++(a.eval y).cells.toList++arr.toList.drop (i * es+d+sz))[t]?=some v:=fun t v hv ht=>by
    rw [List.append_assoc]
    rcases ht with ht|ht
    ·rw [List.getElem?_append_left (by omega),List.getElem?_take,if_pos ht];simpa using hv
    ·rw [List.getElem?_append_right (by omega),htl,List.getElem?_append_right (by omega),hvl,List.getElem?_drop]
     rw [show i * es+d+sz+(t - (i * es+d) - sz)=t by omega];simpa using hv
   refine ⟨.skip,undef,w.setRow b (arr.toList.take (i * es+d)++(a.eval y).cells.toList++arr.toList.drop (i * es+d+sz)).toArray,?_,.inr ⟨rfl,rfl⟩,setRow_frame.1,setRow_frame.2.1,setRow_frame.2.2.1,setRow_frame.2.2.2,
    fun k _ hk=>setRow_other w b k _ fun e=>hk (by rw [h5,e];simp),⟨hes,hmax,by simpa using hrl2,.inr ⟨b,_,rfl,h5,setRow_heap w b _ _ ty _ h6',?_,?_⟩⟩,trivial⟩
   ·simp only [execOp,ho,h2,Instr.storeAt,Instr.sureAddr,Sem.run_bind,Sem.run_pure,Result.andThen_ok,hr]
   ·simp only [List.size_toArray,List.length_append,List.length_take,List.length_drop,Array.length_toList,hvl]
    rw [Nat.min_eq_left (by omega)]
    simp only at h7;omega
   ·intro q r hq
    by_cases hqi:q=i
    ·subst hqi
     rw [List.getElem?_set_self hil] at hq
     obtain rfl:=Option.some.inj hq
     obtain ⟨e1,e2⟩:=h8 q old hi
     have hol:(old.take d).length=d:=by rw [List.length_take];omega
     refine ⟨by rw [List.length_append,List.length_append,hol,hrl,List.length_drop];omega,fun j p hp=>?_⟩
     simp only [Nat.zero_add,List.getElem?_toArray]
     by_cases hj1:j < d
     ·rw [List.append_assoc,List.getElem?_append_left (by omega),List.getElem?_take,if_pos hj1] at hp
      obtain ⟨v,hv,hpv⟩:=e2 j p hp
      rw [Nat.zero_add] at hv
      exact ⟨v,hget _ v hv (.inl (by omega)),p.mono hle hpv⟩
     ·by_cases hj2:j < d+sz
      ·rw [List.append_assoc,List.getElem?_append_right (by omega),hol,List.getElem?_append_left (by omega)] at hp
       obtain ⟨v,hv,hpv⟩:=h9.get (i:=j - d) (a:=.p p) (by simp [hp])
       refine ⟨v,?_,p.mono hle hpv⟩
       rw [List.append_assoc,List.getElem?_append_right (by omega),htl,List.getElem?_append_left (by omega),← hv]
       congr 1;omega
      ·rw [List.append_assoc,List.getElem?_append_right (by omega),hol,List.getElem?_append_right (by omega),hrl,List.getElem?_drop] at hp
       rw [show d+sz+(j - d - sz)=j by omega] at hp
       obtain ⟨v,hv,hpv⟩:=e2 j p hp
       rw [Nat.zero_add] at hv
       exact ⟨v,hget _ v hv (.inr (by omega)),p.mono hle hpv⟩
    ·rw [List.getElem?_set_ne (fun e=>hqi e.symm)] at hq
     obtain ⟨e1,e2⟩:=h8 q r hq
     refine ⟨e1,fun j p hp=>?_⟩
     obtain ⟨v,hv,hpv⟩:=e2 j p hp
     have hj:j < es:=by rw [← e1];exact (List.getElem?_eq_some_iff.1 hp).1
     simp only [Nat.zero_add,List.getElem?_toArray]
     rw [Nat.zero_add] at hv
     refine ⟨v,hget _ v hv ?_,p.mono hle hpv⟩
     rcases Nat.lt_or_ge q i with hlt|hge
     ·have:q * es+es≤i * es:=by
       calc q * es+es=(q+1) * es:=by rw [Nat.add_mul,Nat.one_mul]
        _≤i * es:=Nat.mul_le_mul_right _ hlt
      left;omega
     ·have:i * es+es≤q * es:=by
       calc i * es+es=(i+1) * es:=by rw [Nat.add_mul,Nat.one_mul]
        _≤q * es:=Nat.mul_le_mul_right _ (by omega)
      right;omega
end Go.Aw
namespace Go.Proofs.YtkgploeegbmofaaGreat.Wi
open Go Go.RowKit Go.Aw Go.Aw.Cart Go.Proofs.YtkgploeegbmofaaGreat.Ca
set_option linter.unusedVariables false
set_option linter.unusedSimpArgs false
set_option maxRecDepth 8000
set_option maxHeartbeats 4000000
namespace WE
end WE
open WE
end Go.Proofs.YtkgploeegbmofaaGreat.Wi
