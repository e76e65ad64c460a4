/- inputs, the reference: which are the same; ops read; inputs and ops as the document's (the first theorem is In1's, turned) -/
import Derived.Test.YtcbhmngagibhmaaGreatPRC02
import Derived.Test.YtcbhmngagibhmaaGreatPRA33
import Derived.Test.YtcbhmngagibhmaaGreatPRA43
import Derived.Test.YtcbhmngagibhmaaGreatPRC03
namespace Go.Proofs.YtcbhmngagibhmaaGreat.Wi
open Go Go.RowKit Go.Aw Go.Aw.Cart Go.Aw.Tree Go.Proofs.YtcbhmngagibhmaaGreat.Ca Go.Proofs.YtcbhmngagibhmaaGreat.Rg
set_option linter.unusedVariables false
set_option linter.unusedSimpArgs false
set_option maxRecDepth 8000
set_option maxHeartbeats 4000000
open I1
theorem refSame30_g (x y:Inp) (M N:List AC) [pM:PureL M] [pN:PureL N] (hM:M.length=40) (hN:N.length=40) (S:Bool) (kx:okB x.key) (ky:okB y.key) (c:PCall Tryz.prog 18 [.a M,.a N] (.p (.b S))):PCall Tryz.prog 43 [.a (iC x M),.a (iC y N)] (.p (.b (decide (x.kind=y.kind)&&(decide (x.id=y.id)&&(decide (x.key=y.key)&&(decide (x.op=y.op)&&(decide (x.draw=y.draw)&&S))))))):=by
 refine pcall_of Tryz.func43 rfl (fun w0 F S0 M0=>?_)
 haveI i1:PC Tryz.prog 18 [.a M,.a N] True (.p (.b S)):=⟨fun _=>c⟩
 have e4:=op_eq x.op y.op
 have e5:decide ((x.draw:Int)=(y.draw:Int))=decide (x.draw=y.draw):=decide_eq_decide.2 (by omega)
 cases d1:decide (x.kind=y.kind) with
 | false=>
  rw [Bool.false_and]
  as_aux_lemma=>
   repeat' (first|refine jx5 ?_|refine jy0 ?_ ?_|exact spF|refine spQ fun hq hq'=>?_|refine spN fun hn=>?_|fail)
   exact rt1 rfl rfl finS_p rfl
 | true=>
  rw [Bool.true_and]
  cases d2:decide (x.id=y.id) with
  | false=>
   rw [Bool.false_and]
   as_aux_lemma=>
    repeat' (first|refine jx5 ?_|refine jy0 ?_ ?_|exact spF|refine spQ fun hq hq'=>?_|refine spN fun hn=>?_|fail)
    exact rt1 rfl rfl finS_p rfl
  | true=>
   rw [Bool.true_and]
   cases d3:decide (x.key=y.key) with
   | false=>
    rw [Bool.false_and]
    as_aux_lemma=>
     repeat' (first|refine jx5 ?_|refine jy0 ?_ ?_|exact spF|refine spQ fun hq hq'=>?_|refine spN fun hn=>?_|fail)
     exact rt1 rfl rfl finS_p rfl
   | true=>
    rw [Bool.true_and]
    cases d4:decide (x.op=y.op) with
    | false=>
     rw [Bool.false_and]
     rw [d4] at e4
     as_aux_lemma=>
      repeat' (first|refine jx5 ?_|refine jy0 ?_ ?_|exact spF|refine spQ fun hq hq'=>?_|refine spN fun hn=>?_|fail)
      exact rt1 rfl rfl finS_p rfl
    | true=>
     rw [Bool.true_and]
     rw [d4] at e4
     cases d5:decide (x.draw=y.draw) with
     | false=>
      rw [Bool.false_and]
      rw [d5] at e5
      as_aux_lemma=>
       repeat' (first|refine jx5 ?_|refine jy0 ?_ ?_|exact spF|refine spQ fun hq hq'=>?_|refine spN fun hn=>?_|fail)
       exact rt1 rfl rfl finS_p rfl
     | true=>
      rw [Bool.true_and]
      rw [d5] at e5
      as_aux_lemma=>
       repeat' (first|refine jx5 ?_|refine jy0 ?_ ?_|exact spF|refine spQ fun hq hq'=>?_|refine spN fun hn=>?_|fail)
       exact rt1 rfl rfl finS_p rfl
theorem refSame30_w (x y:Inp) (hx:MIn x.msg) (hy:MIn y.msg) (kx:okB x.key) (ky:okB y.key):PCall Tryz.prog 43 [iV x,iV y] (.p (.b (sameI x y))):=
 refSame30_g x y _ _ (mL_len hx.d32) (mL_len hy.d32) _ kx ky (refSame26_w x.msg y.msg hx hy)
theorem as07_w (o:Op3):PCall Tryz.prog 117 [opV o] (opV o):=by
 refine pcall_of Tryz.func117 rfl (fun w0 F S0 M0=>?_)
 as_aux_lemma=>
  repeat' (first|refine jx24 ?_|refine jy0 ?_ ?_|exact spF|refine spQ fun hq hq'=>?_|refine spN fun hn=>?_|fail)
  exact rc1 rfl rfl rfl rfl rfl rfl finL_p rfl
theorem rfop_o (n:Nat) (b:List Nat) (r:RS) (hr:RfOk b r):OCall Tryz.prog 108 [.o (.ptr 1000 n 0)] (memL [(1000,(n+1,some (rfM b r)))]) (opV (opS r).1) (memL [(1000,(n+1,some (rfM b (opS r).2)))]):=by
 refine ocall_of1 Tryz.func108 rfl (fun w0 F S0 M0=>?_)
 obtain ⟨x,r1,h1⟩:=pr_ex (smallS 4 r)
 have o1:RfOk b r1:=by have:=(par_small 4).rf hr;rwa [h1] at this
 obtain ⟨y,r2,h2⟩:=pr_ex (smallS 60 r1)
 have o2:RfOk b r2:=by have:=(par_small 60).rf o1;rwa [h2] at this
 obtain ⟨z,r3,h3⟩:=pr_ex (intS r2)
 have e:opS r=(if (mustS (mayF (x,y,z)) r3).2=0 then (x,y,z) else (0,0,0),mustS (mayF (x,y,z)) r3):=by
  simp only [opS,bindS,mustU,okS,h1,h2,h3]
 rw [e]
 have cM:=Go.Proofs.YtcbhmngagibhmaaGreat.Cq.may7_r (x,y,z)
 generalize mayF (x,y,z)=Y at cM ⊢
 haveI i0:PC Tryz.prog 116 [.a [.p (.i x),.p (.i y),.p (.i z)]] True (.p (.b Y)):=⟨fun _=>cM⟩
 haveI:∀ p g m:Nat,OC Tryz.prog 72 [.o (.ptr p g 0),.p (.i 4)] [(p,(m,some (rfM b r)))] [] (m=g+1) (.p (.i x)) [(p,(m,some (rfM b r1)))]:=fun p g m=>⟨fun h=>by obtain rfl:=h;have:=(rfsmall_o g b r 4 (by decide) (by decide) hr).one p;rwa [h1] at this⟩
 haveI:∀ p g m:Nat,OC Tryz.prog 72 [.o (.ptr p g 0),.p (.i 60)] [(p,(m,some (rfM b r1)))] [] (m=g+1) (.p (.i y)) [(p,(m,some (rfM b r2)))]:=fun p g m=>⟨fun h=>by obtain rfl:=h;have:=(rfsmall_o g b r1 60 (by decide) (by decide) o1).one p;rwa [h2] at this⟩
 haveI:∀ p g m:Nat,OC Tryz.prog 164 [.o (.ptr p g 0)] [(p,(m,some (rfM b r2)))] [] (m=g+1) (.p (.i z)) [(p,(m,some (rfM b r3)))]:=fun p g m=>⟨fun h=>by obtain rfl:=h;have:=(rfint_o g b r2 o2).one p;rwa [h3] at this⟩
 haveI:∀ p g m:Nat,OC Tryz.prog 110 [.o (.ptr p g 0),.p (.b Y)] [(p,(m,some (rfM b r3)))] [] (m=g+1) (.tup []) [(p,(m,some (rfM b (mustS Y r3))))]:=fun p g m=>⟨fun h=>by obtain rfl:=h;exact (rmust_o g b r3 Y).one p⟩
 clear e h1 h2 h3 cM o1 o2
 by_cases hz:(mustS Y r3).2=0
 ·have d1:decide ((mustS Y r3).2≠0)=false:=decide_eq_false fun q=>q hz
  rw [if_pos hz]
  as_aux_lemma=>
   repeat' (first|refine jx5 ?_|refine jy0 ?_ ?_|exact spF|refine spQ fun hq hq'=>?_|refine spN fun hn=>?_|fail)
   exact RetO.mk (oc1 rfl rfl rfl rfl rfl rfl finL_p rfl) ⟨.box finL_p,trivial⟩
 ·have d1:decide ((mustS Y r3).2≠0)=true:=decide_eq_true hz
  rw [if_neg hz]
  as_aux_lemma=>
   repeat' (first|refine jx5 ?_|refine jy0 ?_ ?_|exact spF|refine spQ fun hq hq'=>?_|refine spN fun hn=>?_|fail)
   exact RetO.mk (oc1 rfl rfl rfl rfl rfl rfl finL_p rfl) ⟨.box finL_p,trivial⟩
end Go.Proofs.YtcbhmngagibhmaaGreat.Wi
