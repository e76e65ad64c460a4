/- messages, the reference: Level -/
import Derived.Test.YtkgploeegbmofaaGreatOVA26
import Derived.Test.YtkgploeegbmofaaGreatOVA14
namespace Go.Proofs.YtkgploeegbmofaaGreat.Wi
open Go Go.RowKit Go.Aw Go.Aw.Cart Go.Aw.Tree Go.Proofs.YtkgploeegbmofaaGreat.Ca Go.Proofs.YtkgploeegbmofaaGreat.Rg
set_option linter.unusedVariables false
set_option linter.unusedSimpArgs false
set_option maxRecDepth 8000
set_option maxHeartbeats 4000000
open T2
theorem refLevel26_w (l:List Int) (ex:Bool) (n:Int) (hl:l.length≤9223372036854775807):PCall Tryz.prog 157 [.p (.sl 1 (l.map iRw) ex),.p (.i n)] (.p (.b (lvlF l n))):=by
 refine pcall_of Tryz.func157 rfl (fun w0 F S0 M0=>?_)
 haveI:∀ p:Int,PC Tryz.prog 179 [.p (.i p)] True (.p (.i (levelF p))):=fun p=>⟨fun _=>Tr.rlevel_c p⟩
 repeat' (first|refine jx6 ?_|refine jy0 ?_ ?_|exact spF|refine spQ fun hq hq'=>?_|refine spN fun hn=>?_|fail)
 refine aws_loopS [4,5,6,7,8,9,10,11,12,13,14,15,16,17,18,19,20,21,22,23,24,25,26,27,28,29,30,31,32,33,34] [] (fun (i:Nat)=>[(5,.p (.i i))]) (fun _=>[]) (fun i=>i≤l.length∧∀ j,j < i→lvlAt n l j=true) (fun i=>l.length - i) 0 ⟨Nat.zero_le _,fun j hj=>absurd hj (Nat.not_lt_zero _)⟩ (by exact knA) (by exact knA) ?_
 rintro i β γ ⟨hi,hx⟩
 by_cases hil:i < l.length
 ·have hlt:decide ((i:Int) < (l.length:Int))=true:=decide_eq_true (by omega)
  have ei:(i:Int).toNat=i:=Int.toNat_natCast i
  have hbad:lvlAt n l i=false→lvlF l n=false:=fun q=>decide_eq_false fun z=>by have:=z.1 i hil;rw [q] at this;cases this
  have hgood:lvlAt n l i=true→∀ j,j < i+1→lvlAt n l j=true:=fun q j hj=>by
   by_cases e:j=i
   ·rw [e];exact q
   ·exact hx j (by omega)
  unfold lvlAt at hbad hgood
  rw [show l.getD i default=l.getD (i:Int).toNat default by rw [ei]] at hbad hgood
  by_cases h1:levelF (l.getD (i:Int).toNat default)=n
  ·have d1:decide (levelF (l.getD (i:Int).toNat default)≠n)=false:=decide_eq_false fun q=>q h1
   rw [decide_eq_true h1,Bool.true_and] at hbad hgood
   by_cases h0:i=0
   ·have d2:decide (0 < (i:Int))=false:=decide_eq_false (by omega)
    rw [decide_eq_true h0,Bool.true_or] at hgood
    as_aux_lemma=>
     repeat' (first|refine jx6 ?_|refine jy0 ?_ ?_|exact spF|refine spQ fun hq hq'=>?_|refine spN fun hn=>?_|fail)
     exact ⟨i+1,_,by omega,⟨by omega,hgood rfl⟩,.refl,by exact frA⟩
   ·have d2:decide (0 < (i:Int))=true:=decide_eq_true (by omega)
    have ej:((i:Int) - 1).toNat=i - 1:=by omega
    rw [decide_eq_false h0,Bool.false_or,← ej] at hbad hgood
    by_cases h2:l.getD ((i:Int) - 1).toNat default < l.getD (i:Int).toNat default
    ·have d3:decide (l.getD (i:Int).toNat default≤l.getD ((i:Int) - 1).toNat default)=false:=decide_eq_false (by omega)
     as_aux_lemma=>
      repeat' (first|refine jx6 ?_|refine jy0 ?_ ?_|exact spF|refine spQ fun hq hq'=>?_|refine spN fun hn=>?_|fail)
      exact ⟨i+1,_,by omega,⟨by omega,hgood (decide_eq_true h2)⟩,.refl,by exact frA⟩
    ·have d3:decide (l.getD (i:Int).toNat default≤l.getD ((i:Int) - 1).toNat default)=true:=decide_eq_true (by omega)
     rw [hbad (decide_eq_false h2)]
     as_aux_lemma=>
      repeat' (first|refine jx6 ?_|refine jy0 ?_ ?_|exact spF|refine spQ fun hq hq'=>?_|refine spN fun hn=>?_|fail)
      exact rt1 rfl rfl finS_p rfl
  ·have d1:decide (levelF (l.getD (i:Int).toNat default)≠n)=true:=decide_eq_true h1
   rw [decide_eq_false h1,Bool.false_and] at hbad
   rw [hbad rfl]
   as_aux_lemma=>
    repeat' (first|refine jx6 ?_|refine jy0 ?_ ?_|exact spF|refine spQ fun hq hq'=>?_|refine spN fun hn=>?_|fail)
    exact rt1 rfl rfl finS_p rfl
 ·have hlt:decide ((i:Int) < (l.length:Int))=false:=decide_eq_false (by omega)
  have e:lvlF l n=decide (0 < (l.length:Int)):=decide_eq_decide.2 ⟨fun q=>by omega,fun q=>⟨fun j hj=>hx j (by omega),by omega⟩⟩
  rw [e]
  as_aux_lemma=>
   repeat' (first|refine jx6 ?_|refine jy0 ?_ ?_|exact spF|refine spQ fun hq hq'=>?_|refine spN fun hn=>?_|fail)
   exact rt1 rfl rfl finS_p rfl
end Go.Proofs.YtkgploeegbmofaaGreat.Wi
