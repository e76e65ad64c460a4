/- the reference's lists: which may be -/
import Derived.Test.YtkgploeegbmofaaGreatOVA18
import Derived.Test.YtkgploeegbmofaaGreatOVA11
import Derived.Test.YtkgploeegbmofaaGreatOVA16
namespace Go.Proofs.YtkgploeegbmofaaGreat.Wi
open Go Go.RowKit Go.Aw Go.Aw.Cart Go.Proofs.YtkgploeegbmofaaGreat.Ca
set_option linter.unusedVariables false
set_option linter.unusedSimpArgs false
set_option maxRecDepth 8000
set_option maxHeartbeats 4000000
open W9
theorem refRight10_w (l:List Kd) (ex:Bool) (hl:l.length≤1000000000) (hin:∀ k∈l,KdI k) (hf:∀ k∈l,k.2.2.length≤1000000000):PCall Tryz.prog 159 [.p (.sl 10 (l.map kR) ex)] (.p (.b (keysF l))):=by
 refine pcall_of Tryz.func159 rfl (fun w0 F S0 M0=>?_)
 repeat' (first|refine jx6 ?_|refine jy0 ?_ ?_|exact spF|refine spQ fun hq hq'=>?_|refine spN fun hn=>?_|fail)
 refine aws_loopS (0::[2,3,4,5,6,7,8,9,10,11,12,13,14,15,16,17,18,19,20,21,22,23,24,25,26,27,28,29,30,31,32,33,34,35,36,37,38,39,40,41,42,43,44]) [] (fun (x:Nat)=>[(3,.p (.i x)),(0,.p (.sl 10 (l.map kR) ex))]) (fun x=>[]) (fun x=>x≤l.length∧∀ j,j < x→kdOk l j=true) (fun x=>l.length - x) 0 ⟨Nat.zero_le _,fun j hj=>absurd hj (Nat.not_lt_zero _)⟩ (by exact knA) (by exact knA) ?_
 rintro i β γ ⟨hi,hx⟩
 by_cases hil:i < l.length
 ·have d1:decide ((i:Int) < (l.length:Int))=true:=decide_eq_true (by omega)
  have ei:(i:Int).toNat=i:=Int.toNat_natCast i
  have hm:l.getD (i:Int).toNat default∈l:=by rw [ei,getD_at hil];exact List.getElem_mem _
  have hk:=hin _ hm
  have okx:=hk.key
  have hfx:=hf _ hm
  have h8:=hk.vec.1
  have hok:kdOk l i=(decide ((l.getD (i:Int).toNat default).1.length≤20)&&((decide (i=0)||bLt (l.getD (i - 1) default).1 (l.getD (i:Int).toNat default).1)&&rightF (l.getD (i:Int).toNat default).2.1 (l.getD (i:Int).toNat default).2.2)):=by unfold kdOk;rw [ei]
  have hnext:kdOk l i=true→∀ j,j < i+1→kdOk l j=true:=fun h j hj=>by
   by_cases e:j=i
   ·rw [e];exact h
   ·exact hx j (by omega)
  haveI hR:PC Tryz.prog 183 [cV (l.getD (i:Int).toNat default).2.1 (l.getD (i:Int).toNat default).2.2 false] True (.p (.b (rightF (l.getD (i:Int).toNat default).2.1 (l.getD (i:Int).toNat default).2.2))):=⟨fun _=>Cr.right_r _ _ _ h8 hfx⟩
  generalize rightF (l.getD (i:Int).toNat default).2.1 (l.getD (i:Int).toNat default).2.2=R at hR hok
  by_cases h1:(l.getD (i:Int).toNat default).1.length≤20
  ·have c1:decide (20 < ((l.getD (i:Int).toNat default).1.length:Int))=false:=decide_eq_false (by omega)
   rw [decide_eq_true h1,Bool.true_and] at hok
   by_cases h0:i=0
   ·have c2:decide (0 < (i:Int))=false:=decide_eq_false (by omega)
    rw [decide_eq_true h0,Bool.true_or,Bool.true_and] at hok
    cases R with
    | true=>
     have c4:(!true)=false:=rfl
     clear hin hf hx hm hk
     as_aux_lemma=>
      repeat' (first|refine jx6 ?_|refine jy0 ?_ ?_|exact spF|refine spQ fun hq hq'=>?_|refine spN fun hn=>?_|fail)
      exact ⟨i+1,_,by omega,⟨by omega,hnext hok⟩,.refl,by exact frA⟩
    | false=>
     have c4:(!false)=true:=rfl
     rw [keysF_no hil hok]
     clear hin hf hx hm hk hnext
     as_aux_lemma=>
      repeat' (first|refine jx6 ?_|refine jy0 ?_ ?_|exact spF|refine spQ fun hq hq'=>?_|refine spN fun hn=>?_|fail)
      exact rt1 rfl rfl finS_p rfl
   ·have c2:decide (0 < (i:Int))=true:=decide_eq_true (by omega)
    have ej:((i:Int) - 1).toNat=i - 1:=by omega
    have hm2:l.getD ((i:Int) - 1).toNat default∈l:=by rw [ej,getD_at (by omega)];exact List.getElem_mem _
    have oky:=(hin _ hm2).key
    rw [decide_eq_false h0,Bool.false_or,← ej] at hok
    have hL:=refLess_w (l.getD ((i:Int) - 1).toNat default).1 (l.getD (i:Int).toNat default).1 oky okx (hin _ hm2).len hk.len
    generalize hB:bLt (l.getD ((i:Int) - 1).toNat default).1 (l.getD (i:Int).toNat default).1=B at hok hL
    cases B with
    | true=>
     haveI:PC Tryz.prog 182 [.p (.v (.string (strOf (l.getD ((i:Int) - 1).toNat default).1))),.p (.v (.string (strOf (l.getD (i:Int).toNat default).1)))] True (.p (.b true)):=⟨fun _=>hL⟩
     have c3:(!true)=false:=rfl
     rw [Bool.true_and] at hok
     cases R with
     | true=>
      have c4:(!true)=false:=rfl
      clear hin hf hx hm hk hm2 hB hL
      as_aux_lemma=>
       repeat' (first|refine jx6 ?_|refine jy0 ?_ ?_|exact spF|refine spQ fun hq hq'=>?_|refine spN fun hn=>?_|fail)
       exact ⟨i+1,_,by omega,⟨by omega,hnext hok⟩,.refl,by exact frA⟩
     | false=>
      have c4:(!false)=true:=rfl
      rw [keysF_no hil hok]
      clear hin hf hx hm hk hm2 hB hL hnext
      as_aux_lemma=>
       repeat' (first|refine jx6 ?_|refine jy0 ?_ ?_|exact spF|refine spQ fun hq hq'=>?_|refine spN fun hn=>?_|fail)
       exact rt1 rfl rfl finS_p rfl
    | false=>
     haveI:PC Tryz.prog 182 [.p (.v (.string (strOf (l.getD ((i:Int) - 1).toNat default).1))),.p (.v (.string (strOf (l.getD (i:Int).toNat default).1)))] True (.p (.b false)):=⟨fun _=>hL⟩
     have c3:(!false)=true:=rfl
     rw [Bool.false_and] at hok
     rw [keysF_no hil hok]
     clear hin hf hx hm hk hm2 hB hL hnext
     as_aux_lemma=>
      repeat' (first|refine jx6 ?_|refine jy0 ?_ ?_|exact spF|refine spQ fun hq hq'=>?_|refine spN fun hn=>?_|fail)
      exact rt1 rfl rfl finS_p rfl
  ·have c1:decide (20 < ((l.getD (i:Int).toNat default).1.length:Int))=true:=decide_eq_true (by omega)
   rw [decide_eq_false h1,Bool.false_and] at hok
   rw [keysF_no hil hok]
   clear hin hf hx hm hk hnext
   as_aux_lemma=>
    repeat' (first|refine jx6 ?_|refine jy0 ?_ ?_|exact spF|refine spQ fun hq hq'=>?_|refine spN fun hn=>?_|fail)
    exact rt1 rfl rfl finS_p rfl
 ·have d1:decide ((i:Int) < (l.length:Int))=false:=decide_eq_false (by omega)
  have e:keysF l=decide ((l.length:Int)≤2000):=decide_eq_decide.2 ⟨fun q=>by omega,fun q=>⟨by omega,fun j hj=>hx j (by omega)⟩⟩
  rw [e]
  as_aux_lemma=>
   repeat' (first|refine jx6 ?_|refine jy0 ?_ ?_|exact spF|refine spQ fun hq hq'=>?_|refine spN fun hn=>?_|fail)
   exact rt1 rfl rfl finS_p rfl
end Go.Proofs.YtkgploeegbmofaaGreat.Wi
namespace Go.Proofs.YtkgploeegbmofaaGreat.Wi
open Go Go.RowKit Go.Aw Go.Aw.Cart Go.Proofs.YtkgploeegbmofaaGreat.Ca
set_option linter.unusedVariables false
set_option linter.unusedSimpArgs false
set_option maxRecDepth 8000
set_option maxHeartbeats 4000000
namespace PW9
theorem lopC {C:Ctx} {o:Oper} {σ:St} {e:Eff} {ro:Nat→Bool} (h:LOp C o σ e ro:=by
  first|(apply gBin;(focus rfl);apply lop_nes;(focus rfl);(focus exact inferInstance);(focus rfl);(focus rfl);(focus assumption);(focus assumption);(focus rfl))|exact W9.lopC|fail):LOp C o σ e ro:=h
section steps
variable {C:Ctx} {ops:Array Oper} {o:Oper} {rest:List Oper} {K:St→Prop} {σ:St} {e:Eff} {ro:Nat→Bool} {W:List (Nat × Nat)} {i:Nat}
theorem rnC {d:Nat} (hg:Guard ops σ o true:=by first|exact gd_n rfl rfl|exact gd_t rfl rfl rfl rfl|exact gd_t rfl rfl rfl (by assumption)) (hd:o.dst=some d:=by rfl) (h:LOp C o σ e ro:=by exact lopC) (hk:RunN C ops rest K (e.app (some d) σ)):RunN C ops (o::rest) K σ:=rn_any hg hd h hk
theorem rkC {d:Nat} (hg:Guard ops σ o true:=by first|exact gd_n rfl rfl|exact gd_t rfl rfl rfl rfl|exact gd_t rfl rfl rfl (by assumption)) (hd':o.dst=some d:=by rfl) (hd:dOk C o.dst=true:=by rfl) (h:LOp C o σ e ro:=by exact lopC) (hro:∀ x,ro x=true→okObj ops W i x=true:=by first|exact fun _=>ro_none|exact ro_one rfl|exact ro_k1 rfl|exact ro_one (by kernel_rfl)|exact ro_k1 (by kernel_rfl)|exact ro_kIn (by decide)) (hob:∀ p∈e.obj,(i,p.1)∈W:=by first|exact ob_none|exact ob_one (by decide)|decide) (hk:RunK C ops W (i+1) rest K (e.app (some d) σ)):RunK C ops W i (o::rest) K σ:=rk_wr hg hd' hd h hro hob hk
end steps
end PW9
end Go.Proofs.YtkgploeegbmofaaGreat.Wi
