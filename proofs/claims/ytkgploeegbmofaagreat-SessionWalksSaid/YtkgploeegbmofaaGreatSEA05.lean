/- carts: of dots that stand in order the first of each run -/
import Derived.Test.YtkgploeegbmofaaGreatSEA01
import Derived.Test.YtkgploeegbmofaaGreatSEA04
import Derived.Test.YtkgploeegbmofaaGreatSEA02
namespace Go.Proofs.YtkgploeegbmofaaGreat.Ca
open Go Go.RowKit Go.Aw Go.Aw.Cart
set_option linter.unusedVariables false
set_option linter.unusedSimpArgs false
set_option maxRecDepth 8000
set_option maxHeartbeats 4000000
theorem vEqD (a b:Dot):vEqB [.int .i64 a.1,.int .u64 a.2] [.int .i64 b.1,.int .u64 b.2]=decide (a=b):=by
 obtain ⟨a1,a2⟩:=a
 obtain ⟨b1,b2⟩:=b
 rw [Bool.eq_iff_iff]
 simp [vEqB,vEq]
theorem compactD_o (n:Nat) (l:List Dot) (h:l.length≤1000000000):OCall Tryz.prog 188 [.o (.osl 1000 n 2 0 l.length)] (memL [(1000,(n+1,some (.buf 179 2 (l.map dR))))]) (.o (.osl 1000 n 2 0 (comp l).length)) (memL [(1000,(n+1,some (.buf 179 2 ((comp l).map dR))))]):=by
 refine ocall_of1 Tryz.func188 rfl (fun w0 F S0 M0=>?_)
 obtain ⟨L,hL⟩:∃ L,L=(comp l).length:=⟨_,rfl⟩
 obtain ⟨A,hA⟩:∃ A,A=comp l:=⟨_,rfl⟩
 rw [← hL,← hA]
 by_cases h2:l.length < 2
 ·have d1:decide ((l.length:Int) < 2)=true:=decide_eq_true (by omega)
  have e:comp l=l:=by
   have:l=l.take 1:=by rw [List.take_of_length_le (by omega)]
   rw [this];exact comp_one l
  rw [e] at hL hA
  subst hL hA
  as_aux_lemma=>
   repeat' (first|refine jx1 ?_|refine jy0 ?_ ?_|exact spF|refine spQ fun hq hq'=>?_|refine spN fun hn=>?_|fail)
   exact RetO.mk (ot1 rfl rfl (.one (.kosl rfl)) rfl) ⟨.buf,trivial⟩
 have d1:decide ((l.length:Int) < 2)=false:=decide_eq_false (by omega)
 repeat' (first|refine jx1 ?_|refine jy0 ?_ ?_|exact spF|refine spQ fun hq hq'=>?_|refine spN fun hn=>?_|fail)
 refine aws_loopS [2,3,4,5,10,11,12,13,14,15,16,17,18,19,20,21,22,23,24,25,26,27,28,29,30,31,32,33,34,35,36,37,38,39,40,41,42,43,44,45,46,47,48,49,50,51,52,53,54,55,56,57,58,59] [] (fun (k:Nat)=>[(3,.p (.i k))]) (fun _=>[]) (fun k=>1≤k∧k≤l.length∧comp (l.take k)=l.take k) (fun k=>l.length - k) 1 ⟨Nat.le_refl _,by omega,comp_one l⟩ (by exact knA) (by exact knA) ?_
 rintro k β γ ⟨hk1,hkl,hkc⟩
 by_cases hk:k < l.length
 ·have hd:decide ((k:Int) < (l.length:Int))=true:=decide_eq_true (by omega)
  have hct:=comp_take hk hk1
  have hv0:=vEqD (l.getD (k:Int).toNat default) (l.getD ((k:Int) - 1).toNat default)
  by_cases hv:l.getD (k:Int).toNat default=l.getD ((k:Int) - 1).toNat default
  ·rw [decide_eq_true hv] at hv0
   have hv':l.getD k default=l.getD (k - 1) default:=by rw [Int.toNat_natCast,show ((k:Int) - 1).toNat=k - 1 by omega] at hv;exact hv
   rw [if_pos hv',List.append_nil,hkc] at hct
   repeat' (first|refine jx1 ?_|refine jy0 ?_ ?_|exact spF|refine spQ fun hq hq'=>?_|refine spN fun hn=>?_|fail)
   refine aws_loopS [3,5,29,30,31,32,33,34,35,36,37,38,39,40,41,42,43,44,45,46,47,48,49,50,51,52,53] [1000] (fun (x:Nat × Nat × List Dot)=>[(5,.p (.i x.1)),(3,.p (.i x.2.1))]) (fun x=>[(1000,(n+1,some (.buf 179 2 (x.2.2.map dR))))])
    (fun x=>1≤x.1∧k+x.1≤l.length∧k≤x.2.1∧x.2.1 < k+x.1∧x.2.2.length=l.length∧x.2.2.take x.2.1=comp (l.take (k+x.1))∧∀ i,k+x.1≤i+1→x.2.2.getD i default=l.getD i default)
    (fun x=>l.length - (k+x.1)) (1,k,l) ⟨Nat.le_refl _,by dsimp only;omega,Nat.le_refl _,by dsimp only;omega,rfl,hct.symm,fun i _=>rfl⟩ (by exact knA) (by exact knA) ?_
   rintro ⟨j,q,m⟩ β2 γ2 ⟨hj1,hjl,hkq,hqj,hml,hmc,hmr⟩
   simp only at hj1 hjl hkq hqj hml hmc hmr
   dsimp only
   by_cases hjn:k+j < l.length
   ·have hd2:decide ((j:Int) < ((l.length - (k:Int).toNat:Nat):Int))=true:=decide_eq_true (by omega)
    have hct2:=comp_take hjn (by omega)
    have hm0:m.getD ((k:Int).toNat+(j:Int).toNat) default=l.getD (k+j) default:=by rw [Int.toNat_natCast,Int.toNat_natCast];exact hmr _ (by omega)
    have hm1:m.getD ((k:Int).toNat+((j:Int) - 1).toNat) default=l.getD (k+j - 1) default:=by rw [Int.toNat_natCast,show k+((j:Int) - 1).toNat=k+j - 1 by omega];exact hmr _ (by omega)
    have hv1:=vEqD (m.getD ((k:Int).toNat+(j:Int).toNat) default) (m.getD ((k:Int).toNat+((j:Int) - 1).toNat) default)
    by_cases hw:m.getD ((k:Int).toNat+(j:Int).toNat) default=m.getD ((k:Int).toNat+((j:Int) - 1).toNat) default
    ·rw [decide_eq_true hw] at hv1
     have hv2:(!vEqB [.int .i64 (m.getD ((k:Int).toNat+(j:Int).toNat) default).1,.int .u64 (m.getD ((k:Int).toNat+(j:Int).toNat) default).2] [.int .i64 (m.getD ((k:Int).toNat+((j:Int) - 1).toNat) default).1,.int .u64 (m.getD ((k:Int).toNat+((j:Int) - 1).toNat) default).2])=false:=by rw [hv1];rfl
     rw [hm0,hm1] at hw
     rw [if_pos hw,List.append_nil] at hct2
     as_aux_lemma=>
      repeat' (first|refine jx1 ?_|refine jy0 ?_ ?_|exact spF|refine spQ fun hq hq'=>?_|refine spN fun hn=>?_|fail)
      exact ⟨(j+1,q,m),_,by dsimp only;omega,⟨by dsimp only;omega,by dsimp only;omega,hkq,by dsimp only;omega,hml,by dsimp only;rw [hmc,← Nat.add_assoc,hct2],fun i hi=>hmr i (by dsimp only at hi;omega)⟩,.refl,by exact frA⟩
    ·rw [decide_eq_false hw] at hv1
     have hv2:(!vEqB [.int .i64 (m.getD ((k:Int).toNat+(j:Int).toNat) default).1,.int .u64 (m.getD ((k:Int).toNat+(j:Int).toNat) default).2] [.int .i64 (m.getD ((k:Int).toNat+((j:Int) - 1).toNat) default).1,.int .u64 (m.getD ((k:Int).toNat+((j:Int) - 1).toNat) default).2])=true:=by rw [hv1];rfl
     rw [hm0,hm1] at hw
     rw [if_neg hw] at hct2
     as_aux_lemma=>
      repeat' (first|refine jx1 ?_|refine jy0 ?_ ?_|exact spF|refine spQ fun hq hq'=>?_|refine spN fun hn=>?_|fail)
      refine ⟨(j+1,q+1,m.set (q:Int).toNat (m.getD ((k:Int).toNat+(j:Int).toNat) default)),_,by dsimp only;omega,⟨by dsimp only;omega,by dsimp only;omega,by dsimp only;omega,by dsimp only;omega,by dsimp only;rw [List.length_set];exact hml,?_,fun i hi=>?_⟩,.refl,by exact frA⟩
      ·dsimp only
       rw [hm0,← Nat.add_assoc,hct2,← hmc,Int.toNat_natCast,List.take_succ_eq_append_getElem (by rw [List.length_set];omega),List.getElem_set_self,List.take_set_of_le (Nat.le_refl _)]
      ·dsimp only at hi ⊢
       rw [List.getD_eq_getElem?_getD,List.getElem?_set_ne (by rw [Int.toNat_natCast];omega),← List.getD_eq_getElem?_getD]
       exact hmr i (by omega)
   ·have hd2:decide ((j:Int) < ((l.length - (k:Int).toNat:Nat):Int))=false:=decide_eq_false (by omega)
    have e0:l.take (k+j)=l:=List.take_of_length_le (by omega)
    rw [e0] at hmc
    have hA':A=m.take (q:Int).toNat:=by rw [hA,← hmc,Int.toNat_natCast]
    have hL':L=(q:Int).toNat:=by rw [hL,← hmc,List.length_take,Int.toNat_natCast];omega
    rw [hA',hL']
    as_aux_lemma=>
     repeat' (first|refine jx1 ?_|refine jy0 ?_ ?_|exact spF|refine spQ fun hq hq'=>?_|refine spN fun hn=>?_|fail)
     exact RetO.mk (ot1 rfl rfl (.one (.kosl rfl)) rfl) ⟨.buf,trivial⟩
  ·rw [decide_eq_false hv] at hv0
   have hv':¬ l.getD k default=l.getD (k - 1) default:=by rw [Int.toNat_natCast,show ((k:Int) - 1).toNat=k - 1 by omega] at hv;exact hv
   rw [if_neg hv',hkc] at hct
   as_aux_lemma=>
    repeat' (first|refine jx1 ?_|refine jy0 ?_ ?_|exact spF|refine spQ fun hq hq'=>?_|refine spN fun hn=>?_|fail)
    refine ⟨k+1,_,by omega,⟨by omega,by omega,?_⟩,.refl,by exact frA⟩
    rw [hct,List.take_succ_eq_append_getElem hk,List.getD_eq_getElem?_getD,List.getElem?_eq_getElem hk];rfl
 ·have hd:decide ((k:Int) < (l.length:Int))=false:=decide_eq_false (by omega)
  have e0:l.take k=l:=List.take_of_length_le (by omega)
  rw [e0] at hkc
  rw [hkc] at hL hA
  subst hL hA
  as_aux_lemma=>
   repeat' (first|refine jx1 ?_|refine jy0 ?_ ?_|exact spF|refine spQ fun hq hq'=>?_|refine spN fun hn=>?_|fail)
   exact RetO.mk (ot1 rfl rfl (.one (.kosl rfl)) rfl) ⟨.buf,trivial⟩
end Go.Proofs.YtkgploeegbmofaaGreat.Ca
