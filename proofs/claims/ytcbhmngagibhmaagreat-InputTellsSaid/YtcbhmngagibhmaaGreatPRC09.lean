/- inputs, the law InputTells -/
import Derived.Test.YtcbhmngagibhmaaGreatPRC02
namespace Go.Proofs.YtcbhmngagibhmaaGreat.Wi
open Go Go.RowKit Go.Aw Go.Aw.Cart Go.Aw.Tree Go.Proofs.YtcbhmngagibhmaaGreat.Ca Go.Proofs.YtcbhmngagibhmaaGreat.Rg
set_option linter.unusedVariables false
set_option linter.unusedSimpArgs false
set_option maxRecDepth 8000
set_option maxHeartbeats 4000000
open I4
theorem inputTells_g (x y z:Inp) (M N Z:List AC) [pM:PureL M] [pN:PureL N] [pZ:PureL Z] (hM:M.length=40) (hN:N.length=40) (hZ:Z.length=40) (b A:List Nat) (e f:Int) (R S:Bool) (G1 G2:Bool) (hbl:b.length≤9223372036854775807)
  (a0:PCall Tryz.prog 35 [] (.p (.b true)))
  (g1:PCall Tryz.prog 34 [.a (iC x M)] (.p (.b G1))) (g2:PCall Tryz.prog 34 [.a (iC y N)] (.p (.b G2)))
  (h:G1=false→G2=false→b.length≤3000→okB A∧(f=0∨f=3)∧(R=false→e=3∧A=[])∧(R=true→e=0)
   ∧ PCall Tryz.prog 41 [.a (iC x M)] (.a (iC x M))∧PCall Tryz.prog 41 [.a (iC y N)] (.a (iC y N))∧PCall Tryz.prog 41 [.a (iC z Z)] (.a (iC z Z))
   ∧ PCall Tryz.prog 36 [.a (iC x M)] (.tup [.one (.p (.sl 1 (A.map bR) false)),.one (.p (.i e))])
   ∧ PCall Tryz.prog 37 [.p (.sl 1 (b.map bR) false)] (.tup [.agg (iC z Z),.one (.p (.i f))])
   ∧ PCall Tryz.prog 38 [.p (.sl 1 (b.map bR) false)] (.tup [.agg (iC z Z),.one (.p (.b (decide (f=0))))])
   ∧ PCall Tryz.prog 39 [.a (iC x M)] (.p (.b R))∧PCall Tryz.prog 40 [.a (iC x M)] (.p (.b R))
   ∧ PCall Tryz.prog 42 [.a (iC x M),.a (iC y N)] (.p (.b S))∧PCall Tryz.prog 43 [.a (iC x M),.a (iC y N)] (.p (.b S))∧PCall Tryz.prog 43 [.a (iC z Z),.a (iC z Z)] (.p (.b true))
   ∧ (R=true→PCall Tryz.prog 44 [.a (iC x M)] (.p (.sl 1 (A.map bR) false)))) :
  PCall Tryz.prog 5 [.a (iC x M),.a (iC y N),.p (.sl 1 (b.map bR) false)] (.p (.b true)):=by
 refine pcall_of Tryz.func5 rfl (fun w0 F S0 M0=>?_)
 haveI i0:PC Tryz.prog 35 [] True (.p (.b true)):=⟨fun _=>a0⟩
 haveI i1:PC Tryz.prog 34 [.a (iC x M)] True (.p (.b G1)):=⟨fun _=>g1⟩
 haveI i2:PC Tryz.prog 34 [.a (iC y N)] True (.p (.b G2)):=⟨fun _=>g2⟩
 clear a0 g1 g2
 cases G1 with
 | true=>
  clear h
  as_aux_lemma=>
   repeat' (first|refine jx23 ?_|refine jy0 ?_ ?_|exact spF|refine spQ fun hq hq'=>?_|refine spN fun hn=>?_|fail)
   exact rt1 rfl rfl finS_p rfl
 | false=>
 cases G2 with
 | true=>
  clear h
  as_aux_lemma=>
   repeat' (first|refine jx23 ?_|refine jy0 ?_ ?_|exact spF|refine spQ fun hq hq'=>?_|refine spN fun hn=>?_|fail)
   exact rt1 rfl rfl finS_p rfl
 | false=>
 by_cases hlb:3000 < b.length
 ·have d1:decide (3000 < (b.length:Int))=true:=decide_eq_true (by omega)
  clear h
  as_aux_lemma=>
   repeat' (first|refine jx23 ?_|refine jy0 ?_ ?_|exact spF|refine spQ fun hq hq'=>?_|refine spN fun hn=>?_|fail)
   exact rt1 rfl rfl finS_p rfl
 have d1:decide (3000 < (b.length:Int))=false:=decide_eq_false (by omega)
 obtain ⟨oA,hf,hR0,hR1,p1,p2,p3,p4,p5,p6,p7,p8,p9,pa,pb,pd⟩:=h rfl rfl (by omega)
 haveI i3:PC Tryz.prog 41 [.a (iC x M)] True (.a (iC x M)):=⟨fun _=>p1⟩
 haveI i4:PC Tryz.prog 41 [.a (iC y N)] True (.a (iC y N)):=⟨fun _=>p2⟩
 haveI i5:PC Tryz.prog 41 [.a (iC z Z)] True (.a (iC z Z)):=⟨fun _=>p3⟩
 haveI i6:PC Tryz.prog 36 [.a (iC x M)] True (.tup [.one (.p (.sl 1 (A.map bR) false)),.one (.p (.i e))]):=⟨fun _=>p4⟩
 haveI i7:PC Tryz.prog 37 [.p (.sl 1 (b.map bR) false)] True (.tup [.agg (iC z Z),.one (.p (.i f))]):=⟨fun _=>p5⟩
 haveI i9:PC Tryz.prog 39 [.a (iC x M)] True (.p (.b R)):=⟨fun _=>p7⟩
 haveI ia:PC Tryz.prog 40 [.a (iC x M)] True (.p (.b R)):=⟨fun _=>p8⟩
 haveI ib:PC Tryz.prog 42 [.a (iC x M),.a (iC y N)] True (.p (.b S)):=⟨fun _=>p9⟩
 haveI ic:PC Tryz.prog 43 [.a (iC x M),.a (iC y N)] True (.p (.b S)):=⟨fun _=>pa⟩
 haveI id':PC Tryz.prog 43 [.a (iC z Z),.a (iC z Z)] True (.p (.b true)):=⟨fun _=>pb⟩
 clear p1 p2 p3 p4 p5 p7 p8 p9 pa pb h
 have t0:(!true)=false:=rfl
 have t1:(!false)=true:=rfl
 have eS:(S != S)=false:=by cases S<;>rfl
 have eR:(R != R)=false:=by cases R<;>rfl
 have key:∀ {X:Prop},(∀ E:Bool,decide (f=0)=E→(E=false→decide (f≠3)=false)→(decide (f=0) != E)=false→X)→X:=fun k=>by
  rcases hf with rfl|rfl
  ·exact k true rfl (fun h=>by cases h) rfl
  ·exact k false rfl (fun _=>rfl) rfl
 refine key fun E hE hE2 hE3=>?_
 rw [hE] at p6
 haveI i8:PC Tryz.prog 38 [.p (.sl 1 (b.map bR) false)] True (.tup [.agg (iC z Z),.one (.p (.b E))]):=⟨fun _=>p6⟩
 clear p6 key hf
 cases R with
 | false=>
  obtain ⟨rfl,rfl⟩:=hR0 rfl
  clear hR0 hR1 pd
  cases E with
  | true=>
   clear hE2
   as_aux_lemma=>
    repeat' (first|refine jx23 ?_|refine jy0 ?_ ?_|exact spF|refine spQ fun hq hq'=>?_|refine spN fun hn=>?_|fail)
    exact rt1 rfl rfl finS_p rfl
  | false=>
   have hE2:=hE2 rfl
   as_aux_lemma=>
    repeat' (first|refine jx23 ?_|refine jy0 ?_ ?_|exact spF|refine spQ fun hq hq'=>?_|refine spN fun hn=>?_|fail)
    exact rt1 rfl rfl finS_p rfl
 | true=>
  obtain rfl:=hR1 rfl
  haveI iw:PC Tryz.prog 44 [.a (iC x M)] True (.p (.sl 1 (A.map bR) false)):=⟨fun _=>pd rfl⟩
  clear hR0 hR1 pd
  cases E with
  | true=>
   clear hE2
   as_aux_lemma=>
    repeat' (first|refine jx23 ?_|refine jy0 ?_ ?_|exact spF|refine spQ fun hq hq'=>?_|refine spN fun hn=>?_|fail)
    exact rt1 rfl rfl finS_p (rb (decide_eq_true rfl).symm)
  | false=>
   have hE2:=hE2 rfl
   as_aux_lemma=>
    repeat' (first|refine jx23 ?_|refine jy0 ?_ ?_|exact spF|refine spQ fun hq hq'=>?_|refine spN fun hn=>?_|fail)
    exact rt1 rfl rfl finS_p (rb (decide_eq_true rfl).symm)
end Go.Proofs.YtcbhmngagibhmaaGreat.Wi
