/- packs: which lists may be; great ones -/
import Derived.Test.YtkgploeegbmofaaGreatSEA13
import Derived.Test.YtkgploeegbmofaaGreatSEA14
namespace Go.Proofs.YtkgploeegbmofaaGreat.Wi
open Go Go.RowKit Go.Aw Go.Aw.Cart Go.Proofs.YtkgploeegbmofaaGreat.Ca
set_option linter.unusedVariables false
set_option linter.unusedSimpArgs false
set_option maxRecDepth 8000
set_option maxHeartbeats 4000000
open W9
structure KdI (k:Kd):Prop where
 key:okB k.1
 len:k.1.length≤9223372036854775807
 vec:vecOk k.2.1
 few:k.2.2.length≤9223372036854775807
theorem keysF_no {l:List Kd} {i:Nat} (hi:i < l.length) (h:kdOk l i=false):keysF l=false:=decide_eq_false fun q=>by
 have:=q.2 i hi
 rw [h] at this;cases this
theorem pright_w (l:List Kd) (ex:Bool) (hl:l.length≤1000000000) (hin:∀ k∈l,KdI k) (hf:∀ k∈l,k.2.2.length≤1000000000):PCall Tryz.prog 28 [.p (.sl 10 (l.map kR) ex)] (.p (.b (keysF l))):=by
 refine pcall_of Tryz.func28 rfl (fun w0 F S0 M0=>?_)
 repeat' (first|refine jx6 ?_|refine jy0 ?_ ?_|exact spF|refine spQ fun hq hq'=>?_|refine spN fun hn=>?_|fail)
 refine aws_loopS [2,3,4,7,8,9,10,11,12,13,14,15,16,17,18,19,20,21,22,23,24,25,26,27,28,29,30,31,32,33,34,35,36,37] [4] (fun (x:Nat × Option MO)=>[(7,.p (.i x.1))]) (fun x=>[(4,(x.1,x.2))]) (fun x=>x.1≤l.length∧∀ j,j < x.1→kdOk l j=true) (fun x=>l.length - x.1) (0,none) ⟨Nat.zero_le _,fun j hj=>absurd hj (Nat.not_lt_zero _)⟩ (by exact knA) (by exact knA) ?_
 rintro ⟨i,c4⟩ β γ ⟨hi,hx⟩
 dsimp only at hi hx ⊢
 by_cases hil:i < l.length
 ·have d1:decide ((i:Int) < (l.length:Int))=true:=decide_eq_true (by omega)
  have ei:(i:Int).toNat=i:=Int.toNat_natCast i
  have hm:l.getD (i:Int).toNat default∈l:=by rw [ei,getD_at hil];exact List.getElem_mem _
  have hk:=hin _ hm
  have okx:=hk.key
  have hfx:=hf _ hm
  have h8:=hk.vec.1
  have hok:kdOk l i=(decide ((l.getD (i:Int).toNat default).1.length≤20)&&((decide (i=0)||bLt (l.getD (i - 1) default).1 (l.getD (i:Int).toNat default).1)&&rightF (l.getD (i:Int).toNat default).2.1 (l.getD (i:Int).toNat default).2.2)):=by unfold kdOk;rw [ei]
  have hnext:kdOk l i=true→∀ j,j < i+1→kdOk l j=true:=fun h j hj=>by
   by_cases e:j=i
   ·rw [e];exact h
   ·exact hx j (by omega)
  haveI hR:PC Tryz.prog 66 [cV (l.getD (i:Int).toNat default).2.1 (l.getD (i:Int).toNat default).2.2 false] True (.p (.b (rightF (l.getD (i:Int).toNat default).2.1 (l.getD (i:Int).toNat default).2.2))):=⟨fun _=>right_w _ _ _ h8 hfx⟩
  generalize rightF (l.getD (i:Int).toNat default).2.1 (l.getD (i:Int).toNat default).2.2=R at hR hok
  by_cases h1:(l.getD (i:Int).toNat default).1.length≤20
  ·have c1:decide (20 < ((l.getD (i:Int).toNat default).1.length:Int))=false:=decide_eq_false (by omega)
   rw [decide_eq_true h1,Bool.true_and] at hok
   by_cases h0:i=0
   ·have c2:decide (0 < (i:Int))=false:=decide_eq_false (by omega)
    rw [decide_eq_true h0,Bool.true_or,Bool.true_and] at hok
    cases R with
    | true=>
     have c4:(!true)=false:=rfl
     clear hin hf hx hm hk
     as_aux_lemma=>
      repeat' (first|refine jx6 ?_|refine jy0 ?_ ?_|exact spF|refine spQ fun hq hq'=>?_|refine spN fun hn=>?_|fail)
      exact ⟨(i+1,_),_,by dsimp only;omega,⟨by dsimp only;omega,hnext hok⟩,.refl,by exact frA⟩
    | false=>
     have c4:(!false)=true:=rfl
     rw [keysF_no hil hok]
     clear hin hf hx hm hk hnext
     as_aux_lemma=>
      repeat' (first|refine jx6 ?_|refine jy0 ?_ ?_|exact spF|refine spQ fun hq hq'=>?_|refine spN fun hn=>?_|fail)
      exact rt1 rfl rfl finS_p rfl
   ·have c2:decide (0 < (i:Int))=true:=decide_eq_true (by omega)
    have ej:((i:Int) - 1).toNat=i - 1:=by omega
    have hm2:l.getD ((i:Int) - 1).toNat default∈l:=by rw [ej,getD_at (by omega)];exact List.getElem_mem _
    have oky:=(hin _ hm2).key
    rw [decide_eq_false h0,Bool.false_or,← ej] at hok
    generalize hB:bLt (l.getD ((i:Int) - 1).toNat default).1 (l.getD (i:Int).toNat default).1=B at hok
    cases B with
    | true=>
     have c3:(!bLt (l.getD ((i:Int) - 1).toNat default).1 (l.getD (i:Int).toNat default).1)=false:=by rw [hB];rfl
     rw [Bool.true_and] at hok
     cases R with
     | true=>
      have c4:(!true)=false:=rfl
      clear hin hf hx hm hk hm2 hB
      as_aux_lemma=>
       repeat' (first|refine jx6 ?_|refine jy0 ?_ ?_|exact spF|refine spQ fun hq hq'=>?_|refine spN fun hn=>?_|fail)
       exact ⟨(i+1,_),_,by dsimp only;omega,⟨by dsimp only;omega,hnext hok⟩,.refl,by exact frA⟩
     | false=>
      have c4:(!false)=true:=rfl
      rw [keysF_no hil hok]
      clear hin hf hx hm hk hm2 hB hnext
      as_aux_lemma=>
       repeat' (first|refine jx6 ?_|refine jy0 ?_ ?_|exact spF|refine spQ fun hq hq'=>?_|refine spN fun hn=>?_|fail)
       exact rt1 rfl rfl finS_p rfl
    | false=>
     have c3:(!bLt (l.getD ((i:Int) - 1).toNat default).1 (l.getD (i:Int).toNat default).1)=true:=by rw [hB];rfl
     rw [Bool.false_and] at hok
     rw [keysF_no hil hok]
     clear hin hf hx hm hk hm2 hB hnext
     as_aux_lemma=>
      repeat' (first|refine jx6 ?_|refine jy0 ?_ ?_|exact spF|refine spQ fun hq hq'=>?_|refine spN fun hn=>?_|fail)
      exact rt1 rfl rfl finS_p rfl
  ·have c1:decide (20 < ((l.getD (i:Int).toNat default).1.length:Int))=true:=decide_eq_true (by omega)
   rw [decide_eq_false h1,Bool.false_and] at hok
   rw [keysF_no hil hok]
   clear hin hf hx hm hk hnext
   as_aux_lemma=>
    repeat' (first|refine jx6 ?_|refine jy0 ?_ ?_|exact spF|refine spQ fun hq hq'=>?_|refine spN fun hn=>?_|fail)
    exact rt1 rfl rfl finS_p rfl
 ·have d1:decide ((i:Int) < (l.length:Int))=false:=decide_eq_false (by omega)
  have e:keysF l=decide ((l.length:Int)≤2000):=decide_eq_decide.2 ⟨fun q=>by omega,fun q=>⟨by omega,fun j hj=>hx j (by omega)⟩⟩
  rw [e]
  as_aux_lemma=>
   repeat' (first|refine jx6 ?_|refine jy0 ?_ ?_|exact spF|refine spQ fun hq hq'=>?_|refine spN fun hn=>?_|fail)
   exact rt1 rfl rfl finS_p rfl
def greatL (l:List Kd):Bool:=decide (∃ i,i < l.length∧(30 < l.length∨100 < (l.getD i default).1.length∨60 < (l.getD i default).2.2.length))
theorem greatL_no {l:List Kd} (h:greatL l=false):l.length≤30∧∀ k∈l,k.1.length≤100∧k.2.2.length≤60:=by
 have h':=of_decide_eq_false h
 constructor
 ·rcases Nat.lt_or_ge 30 l.length with q|q
  ·exact absurd ⟨0,by omega,.inl q⟩ h'
  ·exact q
 ·intro k hk
  obtain ⟨i,hi,rfl⟩:=getD_mem hk
  constructor
  ·rcases Nat.lt_or_ge 100 (l.getD i default).1.length with q|q
   ·exact absurd ⟨i,hi,.inr (.inl q)⟩ h'
   ·exact q
  ·rcases Nat.lt_or_ge 60 (l.getD i default).2.2.length with q|q
   ·exact absurd ⟨i,hi,.inr (.inr q)⟩ h'
   ·exact q
theorem pgreat_w (l:List Kd) (ex:Bool) (hl:l.length≤9223372036854775807):PCall Tryz.prog 23 [.p (.sl 10 (l.map kR) ex)] (.p (.b (greatL l))):=by
 refine pcall_of Tryz.func23 rfl (fun w0 F S0 M0=>?_)
 repeat' (first|refine jx6 ?_|refine jy0 ?_ ?_|exact spF|refine spQ fun hq hq'=>?_|refine spN fun hn=>?_|fail)
 refine aws_loopS [2,3,4,5,6,7,8,9,10,11,12,13,14,15,16,17,18,19,20,21,22,23,24,25,26,27,28,29] [] (fun (i:Nat)=>[(3,.p (.i i))]) (fun _=>[]) (fun i=>i≤l.length∧∀ j,j < i→¬ (30 < l.length∨100 < (l.getD j default).1.length∨60 < (l.getD j default).2.2.length)) (fun i=>l.length - i) 0 ⟨Nat.zero_le _,fun j hj=>absurd hj (Nat.not_lt_zero _)⟩ (by exact knA) (by exact knA) ?_
 rintro i β γ ⟨hi,hx⟩
 by_cases hil:i < l.length
 ·have d1:decide ((i:Int) < (l.length:Int))=true:=decide_eq_true (by omega)
  have ei:(i:Int).toNat=i:=Int.toNat_natCast i
  have yes:(30 < l.length∨100 < (l.getD i default).1.length∨60 < (l.getD i default).2.2.length)→greatL l=true:=fun q=>decide_eq_true ⟨i,hil,q⟩
  have yes:(30 < l.length∨100 < (l.getD (i:Int).toNat default).1.length∨60 < (l.getD (i:Int).toNat default).2.2.length)→greatL l=true:=by rw [ei];exact yes
  by_cases h1:30 < l.length
  ·have c1:decide (30 < (l.length:Int))=true:=decide_eq_true (by omega)
   rw [yes (.inl h1)]
   as_aux_lemma=>
    repeat' (first|refine jx6 ?_|refine jy0 ?_ ?_|exact spF|refine spQ fun hq hq'=>?_|refine spN fun hn=>?_|fail)
    exact rt1 rfl rfl finS_p rfl
  ·have c1:decide (30 < (l.length:Int))=false:=decide_eq_false (by omega)
   by_cases h2:100 < (l.getD (i:Int).toNat default).1.length
   ·have c2:decide (100 < ((l.getD (i:Int).toNat default).1.length:Int))=true:=decide_eq_true (by omega)
    rw [yes (.inr (.inl h2))]
    as_aux_lemma=>
     repeat' (first|refine jx6 ?_|refine jy0 ?_ ?_|exact spF|refine spQ fun hq hq'=>?_|refine spN fun hn=>?_|fail)
     exact rt1 rfl rfl finS_p rfl
   ·have c2:decide (100 < ((l.getD (i:Int).toNat default).1.length:Int))=false:=decide_eq_false (by omega)
    by_cases h3:60 < (l.getD (i:Int).toNat default).2.2.length
    ·have c3:decide (60 < ((l.getD (i:Int).toNat default).2.2.length:Int))=true:=decide_eq_true (by omega)
     rw [yes (.inr (.inr h3))]
     as_aux_lemma=>
      repeat' (first|refine jx6 ?_|refine jy0 ?_ ?_|exact spF|refine spQ fun hq hq'=>?_|refine spN fun hn=>?_|fail)
      exact rt1 rfl rfl finS_p rfl
    ·have c3:decide (60 < ((l.getD (i:Int).toNat default).2.2.length:Int))=false:=decide_eq_false (by omega)
     have hn:∀ j,j < i+1→¬ (30 < l.length∨100 < (l.getD j default).1.length∨60 < (l.getD j default).2.2.length):=fun j hj=>by
      by_cases e:j=i
      ·rw [e];rw [ei] at h2 h3;omega
      ·exact hx j (by omega)
     as_aux_lemma=>
      repeat' (first|refine jx6 ?_|refine jy0 ?_ ?_|exact spF|refine spQ fun hq hq'=>?_|refine spN fun hn=>?_|fail)
      exact ⟨i+1,_,by omega,⟨by omega,hn⟩,.refl,by exact frA⟩
 ·have d1:decide ((i:Int) < (l.length:Int))=false:=decide_eq_false (by omega)
  rw [show greatL l=false from decide_eq_false fun ⟨j,hj,q⟩=>hx j (by omega) q]
  as_aux_lemma=>
   repeat' (first|refine jx6 ?_|refine jy0 ?_ ?_|exact spF|refine spQ fun hq hq'=>?_|refine spN fun hn=>?_|fail)
   exact rt1 rfl rfl finS_p rfl
end Go.Proofs.YtkgploeegbmofaaGreat.Wi
