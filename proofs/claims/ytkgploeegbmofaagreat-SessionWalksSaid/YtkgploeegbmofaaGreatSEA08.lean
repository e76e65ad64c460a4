/- carts: which may be -/
import Derived.Test.YtkgploeegbmofaaGreatSEA07
namespace Go.Proofs.YtkgploeegbmofaaGreat.Ca
open Go Go.RowKit Go.Aw Go.Aw.Cart
set_option linter.unusedVariables false
set_option linter.unusedSimpArgs false
set_option maxRecDepth 8000
set_option maxHeartbeats 4000000
open J
def rowOk (v:List Int) (l:List Ent) (i:Nat):Bool:=entF (l.getD i default)&&hasF v (dotE (l.getD i default))&&(decide (i=0)||decide (ordE (l.getD (i - 1) default) (l.getD i default) < 0))
def okTo (v:List Int) (l:List Ent) (k:Nat):Nat→Bool
 | 0=>true
 | n+1=>rowOk v l k&&okTo v l (k+1) n
def rightF (v:List Int) (l:List Ent):Bool:=decide (l.length≤400)&&(okTo v l 0 l.length&&decide ((liveF l).length=l.length))
theorem right_w (v:List Int) (l:List Ent) (ex:Bool) (hv:v.length=8) (h:l.length≤1000000000):PCall Tryz.prog 66 [cV v l ex] (.p (.b (rightF v l))):=by
 refine pcall_of Tryz.func66 rfl (fun w0 F S0 M0=>?_)
 unfold rightF
 by_cases h4:l.length≤400
 ·have d0:decide (400 < (l.length:Int))=false:=decide_eq_false (by omega)
  rw [decide_eq_true h4,Bool.true_and]
  obtain ⟨A,hA⟩:∃ A,A=okTo v l 0 l.length:=⟨_,rfl⟩
  rw [← hA]
  repeat' (first|refine jx6 ?_|refine jy0 ?_ ?_|exact spF|refine spQ fun hq hq'=>?_|refine spN fun hn=>?_|fail)
  refine aws_loopS [2,3,4,12,13,14,15,16,17,18,19,20,21,22,23,24,25,26,27,28,29,30,31,32,33,34,35,36,37,38,39,40,41,42,43] [4] (fun (x:Nat × Option MO)=>[(12,.p (.i x.1))]) (fun x=>[(4,(x.1,x.2))]) (fun x=>x.1≤l.length∧A=okTo v l x.1 (l.length - x.1)) (fun x=>l.length - x.1) (0,none) ⟨Nat.zero_le _,hA⟩ (by exact knA) (by exact knA) ?_
  rintro ⟨i,c4⟩ β γ ⟨hi,hx⟩
  simp only at hi hx
  dsimp only
  by_cases hil:i < l.length
  ·have hlt:decide ((i:Int) < (l.length:Int))=true:=decide_eq_true (by omega)
   rw [show l.length - i=(l.length - (i+1))+1 by omega,okTo,rowOk] at hx
   have ei:(i:Int).toNat=i:=Int.toNat_natCast i
   have ep:((i:Int) - 1).toNat=i - 1:=by omega
   cases he:entF (l.getD (i:Int).toNat default) with
   | false=>
    have he':(!entF (l.getD (i:Int).toNat default))=true:=by rw [he];rfl
    rw [ei] at he
    rw [he,Bool.false_and,Bool.false_and,Bool.false_and] at hx
    rw [hx]
    as_aux_lemma=>
     repeat' (first|refine jx6 ?_|refine jy0 ?_ ?_|exact spF|refine spQ fun hq hq'=>?_|refine spN fun hn=>?_|fail)
     exact rt1 rfl rfl finS_p rfl
   | true=>
    have he':(!entF (l.getD (i:Int).toNat default))=false:=by rw [he];rfl
    rw [ei] at he
    cases hh:hasF v (dotE (l.getD (i:Int).toNat default)) with
    | false=>
     have hh':(!hasF v (dotE (l.getD (i:Int).toNat default)))=true:=by rw [hh];rfl
     rw [ei] at hh
     rw [hh,Bool.and_false,Bool.false_and,Bool.false_and] at hx
     rw [hx]
     as_aux_lemma=>
      repeat' (first|refine jx6 ?_|refine jy0 ?_ ?_|exact spF|refine spQ fun hq hq'=>?_|refine spN fun hn=>?_|fail)
      exact rt1 rfl rfl finS_p rfl
    | true=>
     have hh':(!hasF v (dotE (l.getD (i:Int).toNat default)))=false:=by rw [hh];rfl
     rw [ei] at hh
     rw [he,hh,Bool.true_and,Bool.true_and] at hx
     by_cases h0:i=0
     ·have d3:decide (0 < (i:Int))=false:=decide_eq_false (by omega)
      rw [decide_eq_true h0,Bool.true_or,Bool.true_and] at hx
      as_aux_lemma=>
       repeat' (first|refine jx6 ?_|refine jy0 ?_ ?_|exact spF|refine spQ fun hq hq'=>?_|refine spN fun hn=>?_|fail)
       exact ⟨(i+1,some (.box 175 (eL (l.getD (i:Int).toNat default)))),_,by dsimp only;omega,⟨by dsimp only;omega,by dsimp only;exact hx⟩,.refl,by exact frA⟩
     ·have d3:decide (0 < (i:Int))=true:=decide_eq_true (by omega)
      rw [decide_eq_false h0,Bool.false_or] at hx
      by_cases ho:ordE (l.getD ((i:Int) - 1).toNat default) (l.getD (i:Int).toNat default) < 0
      ·have d4:decide (0≤ordE (l.getD ((i:Int) - 1).toNat default) (l.getD (i:Int).toNat default))=false:=decide_eq_false (by omega)
       rw [ei,ep] at ho
       rw [decide_eq_true ho,Bool.true_and] at hx
       as_aux_lemma=>
        repeat' (first|refine jx6 ?_|refine jy0 ?_ ?_|exact spF|refine spQ fun hq hq'=>?_|refine spN fun hn=>?_|fail)
        exact ⟨(i+1,some (.box 175 (eL (l.getD (i:Int).toNat default)))),_,by dsimp only;omega,⟨by dsimp only;omega,by dsimp only;exact hx⟩,.refl,by exact frA⟩
      ·have d4:decide (0≤ordE (l.getD ((i:Int) - 1).toNat default) (l.getD (i:Int).toNat default))=true:=decide_eq_true (by omega)
       rw [ei,ep] at ho
       rw [decide_eq_false ho,Bool.false_and] at hx
       rw [hx]
       as_aux_lemma=>
        repeat' (first|refine jx6 ?_|refine jy0 ?_ ?_|exact spF|refine spQ fun hq hq'=>?_|refine spN fun hn=>?_|fail)
        exact rt1 rfl rfl finS_p rfl
  ·have hlt:decide ((i:Int) < (l.length:Int))=false:=decide_eq_false (by omega)
   rw [show l.length - i=0 by omega,okTo] at hx
   rw [hx]
   as_aux_lemma=>
    repeat' (first|refine jx6 ?_|refine jy0 ?_ ?_|exact spF|refine spQ fun hq hq'=>?_|refine spN fun hn=>?_|fail)
    refine rt1 rfl rfl finS_p (rb ?_)
    rw [Bool.true_and]
    exact decide_eq_decide.2 (by omega)
 ·have d0:decide (400 < (l.length:Int))=true:=decide_eq_true (by omega)
  rw [decide_eq_false h4,Bool.false_and]
  as_aux_lemma=>
   repeat' (first|refine jx6 ?_|refine jy0 ?_ ?_|exact spF|refine spQ fun hq hq'=>?_|refine spN fun hn=>?_|fail)
   exact rt1 rfl rfl finS_p rfl
end Go.Proofs.YtkgploeegbmofaaGreat.Ca
