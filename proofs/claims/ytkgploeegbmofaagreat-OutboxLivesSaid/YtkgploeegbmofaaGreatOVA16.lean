/- the reference, chapter 06: which carts may be -/
import Derived.Test.YtkgploeegbmofaaGreatOVA15
namespace Go.Proofs.YtkgploeegbmofaaGreat.Cr
open Go Go.RowKit Go.Aw Go.Aw.Cart Go.Aw.Ord Go.Proofs.YtkgploeegbmofaaGreat.Ca
set_option linter.unusedVariables false
set_option linter.unusedSimpArgs false
set_option maxRecDepth 8000
set_option maxHeartbeats 4000000
/-! which may be -/
def okRow (v:List Int) (l:List Ent) (i:Nat):Prop:=rowOk v l i=true∧∀ k,k < i→dotE (l.getD k default)≠dotE (l.getD i default)
theorem right_of {v:List Int} {l:List Ent} (h:∀ i,i < l.length→okRow v l i):rightF v l=decide (l.length≤400):=by
 by_cases h4:l.length≤400
 ·rw [decide_eq_true h4]
  refine rightF_iff.2 ⟨h4,fun i hi=>(h i hi).1,?_⟩
  refine List.pairwise_iff_getElem.2 fun i j hi hj hij=>?_
  rw [List.length_map] at hi hj
  rw [List.getElem_map,List.getElem_map]
  have:=(h j hj).2 i hij
  rwa [getD_at hi,getD_at hj] at this
 ·rw [decide_eq_false h4,← Bool.not_eq_true]
  exact fun k=>h4 (rightF_iff.1 k).1
theorem right_not {v:List Int} {l:List Ent} {i:Nat} (hi:i < l.length) (h:¬ okRow v l i):rightF v l=false:=by
 rw [← Bool.not_eq_true]
 intro k
 obtain ⟨_,k2,k3⟩:=rightF_iff.1 k
 refine h ⟨k2 i hi,fun j hj=>?_⟩
 have:=List.pairwise_iff_getElem.1 k3 j i (by rw [List.length_map];omega) (by rw [List.length_map];exact hi) hj
 rw [List.getElem_map,List.getElem_map] at this
 rwa [getD_at hi,getD_at (show j < l.length by omega)]
attribute [local irreducible] hasF entF rowOk
theorem right_r (v:List Int) (l:List Ent) (ex:Bool) (hv:v.length=8) (h:l.length≤1000000000):PCall Tryz.prog 183 [cV v l ex] (.p (.b (rightF v l))):=by
 refine pcall_of Tryz.func183 rfl (fun w0 F S0 M0=>?_)
 repeat' (first|refine jx6 ?_|refine jy0 ?_ ?_|exact spF|refine spQ fun hq hq'=>?_|refine spN fun hn=>?_|fail)
 refine aws_loopS [2,3,4,5,6,7,8,9,10,11,12,13,14,15,16,17,18,19,20,21,22,23,24,25,26,27,28,29,30,31,32,33,34,35,36,37,38,39,40,41,42,43,44,45,46,47,48,49,50,51,52,53,54,55,56,57,58,59,60,61,62,63,64,65,66,67,68,69,70,71,72] [4] (fun (x:Nat × Option MO)=>[(3,.p (.i x.1))]) (fun x=>[(4,(x.1,x.2))]) (fun x=>x.1≤l.length∧∀ j,j < x.1→okRow v l j) (fun x=>l.length - x.1) (0,none) ⟨Nat.zero_le _,fun j hj=>absurd hj (Nat.not_lt_zero _)⟩ (by exact knA) (by exact knA) ?_
 rintro ⟨i,c4⟩ β γ ⟨hi,hx⟩
 simp only at hi hx
 dsimp only
 by_cases hil:i < l.length
 ·have hlt:decide ((i:Int) < (l.length:Int))=true:=decide_eq_true (by omega)
  have ei:(i:Int).toNat=i:=Int.toNat_natCast i
  have hrow:∀ (P:Prop),(okRow v l i→P)→¬ P→rightF v l=false:=fun P f n=>right_not hil fun k=>n (f k)
  have r1:okRow v l i→entF (l.getD (i:Int).toNat default)=true:=fun k=>by rw [ei];exact (row_ent k.1).1
  have r2:okRow v l i→hasF v (dotE (l.getD (i:Int).toNat default))=true:=fun k=>by rw [ei];exact (row_ent k.1).2.1
  repeat' (first|refine jx6 ?_|fail)
  by_cases a1:(l.getD (i:Int).toNat default).1 < 1
  ·have b1:decide ((l.getD (i:Int).toNat default).1 < 1)=true:=decide_eq_true a1
   rw [hrow _ r1 (by unfold entF;rw [decide_eq_true_eq];omega)]
   as_aux_lemma=>
    repeat' (first|refine jx6 ?_|refine jy0 ?_ ?_|exact spF|refine spQ fun hq hq'=>?_|refine spN fun hn=>?_|fail)
    exact rt1 rfl rfl finS_p rfl
  ·have b1:decide ((l.getD (i:Int).toNat default).1 < 1)=false:=decide_eq_false a1
   repeat' (first|refine jx6 ?_|fail)
   by_cases a2:60 < (l.getD (i:Int).toNat default).1
   ·have b2:decide (60 < (l.getD (i:Int).toNat default).1)=true:=decide_eq_true a2
    rw [hrow _ r1 (by unfold entF;rw [decide_eq_true_eq];omega)]
    as_aux_lemma=>
     repeat' (first|refine jx6 ?_|refine jy0 ?_ ?_|exact spF|refine spQ fun hq hq'=>?_|refine spN fun hn=>?_|fail)
     exact rt1 rfl rfl finS_p rfl
   ·have b2:decide (60 < (l.getD (i:Int).toNat default).1)=false:=decide_eq_false a2
    repeat' (first|refine jx6 ?_|fail)
    by_cases a3:(l.getD (i:Int).toNat default).2.2.2 < -1000
    ·have b3:decide ((l.getD (i:Int).toNat default).2.2.2 < -1000)=true:=decide_eq_true a3
     rw [hrow _ r1 (by unfold entF;rw [decide_eq_true_eq];omega)]
     as_aux_lemma=>
      repeat' (first|refine jx6 ?_|refine jy0 ?_ ?_|exact spF|refine spQ fun hq hq'=>?_|refine spN fun hn=>?_|fail)
      exact rt1 rfl rfl finS_p rfl
    ·have b3:decide ((l.getD (i:Int).toNat default).2.2.2 < -1000)=false:=decide_eq_false a3
     repeat' (first|refine jx6 ?_|fail)
     by_cases a4:1000 < (l.getD (i:Int).toNat default).2.2.2
     ·have b4:decide (1000 < (l.getD (i:Int).toNat default).2.2.2)=true:=decide_eq_true a4
      rw [hrow _ r1 (by unfold entF;rw [decide_eq_true_eq];omega)]
      as_aux_lemma=>
       repeat' (first|refine jx6 ?_|refine jy0 ?_ ?_|exact spF|refine spQ fun hq hq'=>?_|refine spN fun hn=>?_|fail)
       exact rt1 rfl rfl finS_p rfl
     ·have b4:decide (1000 < (l.getD (i:Int).toNat default).2.2.2)=false:=decide_eq_false a4
      repeat' (first|refine jx6 ?_|fail)
      have he:entF (l.getD i default)=true:=by rw [← ei];unfold entF;exact decide_eq_true (by omega)
      cases a5:hasF v (dotE (l.getD (i:Int).toNat default)) with
      | false=>
       have b5:(!hasF v (dotE (l.getD (i:Int).toNat default)))=true:=by rw [a5];rfl
       rw [hrow _ r2 (by rw [a5];simp)]
       as_aux_lemma=>
        repeat' (first|refine jx6 ?_|refine jy0 ?_ ?_|exact spF|refine spQ fun hq hq'=>?_|refine spN fun hn=>?_|fail)
        exact rt1 rfl rfl finS_p rfl
      | true=>
       have b5:(!hasF v (dotE (l.getD (i:Int).toNat default)))=false:=by rw [a5];rfl
       repeat' (first|refine jx6 ?_|fail)
       rw [ei] at a5
       by_cases h0:i=0
       ·have d3:decide (0 < (i:Int))=false:=decide_eq_false (by omega)
        have hro:rowOk v l i=true:=by unfold rowOk;rw [he,a5,decide_eq_true h0];rfl
        have hok:okRow v l i:=⟨hro,fun k hk=>by omega⟩
        have d4:decide ((0:Int) < (i:Int))=false:=d3
        repeat' (first|refine jx6 ?_|refine jy0 ?_ ?_|exact spF|refine spQ fun hq hq'=>?_|refine spN fun hn=>?_|fail)
        refine aws_loopS [2,5,59,60,61,62,63,64,65,66,67,68,69,70,71,72] [] (fun (k:Nat)=>[(5,.p (.i k))]) (fun _=>[]) (fun k=>k≤i∧∀ j,j < k→dotE (l.getD j default)≠dotE (l.getD i default)) (fun k=>i - k) 0 ⟨Nat.zero_le _,fun j hj=>absurd hj (Nat.not_lt_zero _)⟩ (by exact knA) (by exact knA) ?_
        rintro k β γ ⟨hk,hz⟩
        obtain rfl:k=0:=by omega
        have d5:decide (((0:Nat):Int) < (i:Int))=false:=decide_eq_false (by omega)
        repeat' (first|refine jx6 ?_|refine jy0 ?_ ?_|exact spF|refine spQ fun hq hq'=>?_|refine spN fun hn=>?_|fail)
        refine ⟨(i+1,some (.box 236 (eL (l.getD (i:Int).toNat default)))),_,by dsimp only;omega,⟨by dsimp only;omega,fun j hj=>?_⟩,.refl,by exact frA⟩
        simp only at hj
        by_cases ej:j=i
        ·rw [ej];exact hok
        ·exact hx j (by omega)
       ·have d3:decide (0 < (i:Int))=true:=decide_eq_true (by omega)
        have ep:((i:Int) - 1).toNat=i - 1:=by omega
        repeat' (first|refine jx6 ?_|fail)
        by_cases ho:ltE (l.getD ((i:Int) - 1).toNat default) (l.getD (i:Int).toNat default)
        ·have b6:(!decide (ltE (l.getD ((i:Int) - 1).toNat default) (l.getD (i:Int).toNat default)))=false:=by rw [decide_eq_true ho];rfl
         have hro:rowOk v l i=true:=by
          rw [ei,ep] at ho
          unfold rowOk;rw [he,a5,decide_eq_true (ordE_lt.2 ho),Bool.or_true];rfl
         repeat' (first|refine jx6 ?_|refine jy0 ?_ ?_|exact spF|refine spQ fun hq hq'=>?_|refine spN fun hn=>?_|fail)
         refine aws_loopS [2,5,59,60,61,62,63,64,65,66,67,68,69,70,71,72] [] (fun (k:Nat)=>[(5,.p (.i k))]) (fun _=>[]) (fun k=>k≤i∧∀ j,j < k→dotE (l.getD j default)≠dotE (l.getD i default)) (fun k=>i - k) 0 ⟨Nat.zero_le _,fun j hj=>absurd hj (Nat.not_lt_zero _)⟩ (by exact knA) (by exact knA) ?_
         rintro k β γ ⟨hk,hz⟩
         have ek:(k:Int).toNat=k:=Int.toNat_natCast k
         by_cases hki:k < i
         ·have d5:decide ((k:Int) < (i:Int))=true:=decide_eq_true (by omega)
          have hd:=vEqD (dotE (l.getD (k:Int).toNat default)) (dotE (l.getD (i:Int).toNat default))
          by_cases hq:dotE (l.getD (k:Int).toNat default)=dotE (l.getD (i:Int).toNat default)
          ·rw [decide_eq_true hq] at hd
           rw [right_not hil fun q=>q.2 k hki (by rw [ek,ei] at hq;exact hq)]
           as_aux_lemma=>
            repeat' (first|refine jx6 ?_|refine jy0 ?_ ?_|exact spF|refine spQ fun hq hq'=>?_|refine spN fun hn=>?_|fail)
            exact rt1 rfl rfl finS_p rfl
          ·rw [decide_eq_false hq] at hd
           rw [ek,ei] at hq
           repeat' (first|refine jx6 ?_|refine jy0 ?_ ?_|exact spF|refine spQ fun hq hq'=>?_|refine spN fun hn=>?_|fail)
           refine ⟨k+1,_,by omega,⟨by omega,fun j hj=>?_⟩,.refl,by exact frA⟩
           by_cases ej:j=k
           ·rw [ej];exact hq
           ·exact hz j (by omega)
         ·have d5:decide ((k:Int) < (i:Int))=false:=decide_eq_false (by omega)
          obtain rfl:k=i:=by omega
          repeat' (first|refine jx6 ?_|refine jy0 ?_ ?_|exact spF|refine spQ fun hq hq'=>?_|refine spN fun hn=>?_|fail)
          refine ⟨(k+1,some (.box 236 (eL (l.getD (k:Int).toNat default)))),_,by dsimp only;omega,⟨by dsimp only;omega,fun j hj=>?_⟩,.refl,by exact frA⟩
          simp only at hj
          by_cases ej:j=k
          ·rw [ej];exact ⟨hro,hz⟩
          ·exact hx j (by omega)
        ·have b6:(!decide (ltE (l.getD ((i:Int) - 1).toNat default) (l.getD (i:Int).toNat default)))=true:=by rw [decide_eq_false ho];rfl
         rw [hrow _ (fun k=>(row_ent k.1).2.2 (by omega)) (by rw [ei,ep] at ho;exact ho)]
         as_aux_lemma=>
          repeat' (first|refine jx6 ?_|refine jy0 ?_ ?_|exact spF|refine spQ fun hq hq'=>?_|refine spN fun hn=>?_|fail)
          exact rt1 rfl rfl finS_p rfl
 ·have hlt:decide ((i:Int) < (l.length:Int))=false:=decide_eq_false (by omega)
  obtain rfl:i=l.length:=by omega
  rw [right_of hx]
  as_aux_lemma=>
   repeat' (first|refine jx6 ?_|refine jy0 ?_ ?_|exact spF|refine spQ fun hq hq'=>?_|refine spN fun hn=>?_|fail)
   exact rt1 rfl rfl finS_p (rb (decide_eq_decide.2 (by omega)))
end Go.Proofs.YtkgploeegbmofaaGreat.Cr
