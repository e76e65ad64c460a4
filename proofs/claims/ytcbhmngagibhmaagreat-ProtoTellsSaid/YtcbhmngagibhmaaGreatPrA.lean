/- messages, the law ProtoTells -/
import Derived.Test.YtcbhmngagibhmaaGreatSp
import Derived.Test.YtcbhmngagibhmaaGreatPRA33
namespace Go.Proofs.YtcbhmngagibhmaaGreat.Wi
open Go Go.RowKit Go.Aw Go.Aw.Cart Go.Aw.Tree Go.Proofs.YtcbhmngagibhmaaGreat.Ca Go.Proofs.YtcbhmngagibhmaaGreat.Rg
set_option linter.unusedVariables false
set_option linter.unusedSimpArgs false
set_option maxRecDepth 8000
set_option maxHeartbeats 4000000
open V1
theorem protoTells_g (m n Y:Msg) (b A:List Nat) (e f:Int) (R S Q:Bool) (hm:m.dig.length=32) (hn:n.dig.length=32) (hY:Y.dig.length=32) (G1 G2:Bool) (hbl:b.length≤9223372036854775807)
  (a0:PCall Tryz.prog 10 [] (.p (.b true)))
  (g1:PCall Tryz.prog 9 [mV m] (.p (.b G1))) (g2:PCall Tryz.prog 9 [mV n] (.p (.b G2)))
  (h:G1=false→G2=false→b.length≤3000→okB A∧(Q=(decide (0 < m.kind)&&decide (m.kind < 4)))∧(f=0∨f=3)∧(R=false→e=3∧A=[])∧(R=true→e=0)
   ∧ PCall Tryz.prog 11 [mV m] (mV m)∧PCall Tryz.prog 11 [mV n] (mV n)∧PCall Tryz.prog 11 [mV Y] (mV Y)
   ∧ PCall Tryz.prog 12 [mV m] (.tup [.one (.p (.sl 1 (A.map bR) false)),.one (.p (.i e))])
   ∧ PCall Tryz.prog 13 [.p (.sl 1 (b.map bR) false)] (.tup [.agg (mL Y),.one (.p (.i f))])
   ∧ PCall Tryz.prog 14 [.p (.sl 1 (b.map bR) false)] (.tup [.agg (mL Y),.one (.p (.b (decide (f=0))))])
   ∧ PCall Tryz.prog 15 [mV m] (.p (.b R))∧PCall Tryz.prog 16 [mV m] (.p (.b R))
   ∧ PCall Tryz.prog 17 [mV m,mV n] (.p (.b S))∧PCall Tryz.prog 18 [mV m,mV n] (.p (.b S))∧PCall Tryz.prog 18 [mV Y,mV Y] (.p (.b true))
   ∧ PCall Tryz.prog 19 [mV m] (.p (.b Q))∧(R=true→PCall Tryz.prog 20 [mV m] (.p (.sl 1 (A.map bR) false)))) :
  PCall Tryz.prog 3 [mV m,mV n,.p (.sl 1 (b.map bR) false)] (.p (.b true)):=by
 refine pcall_of Tryz.func3 rfl (fun w0 F S0 M0=>?_)
 have h32:(m.dig.map bcD).length=32:=by rw [List.length_map];exact hm
 have k32:(n.dig.map bcD).length=32:=by rw [List.length_map];exact hn
 have y32:(Y.dig.map bcD).length=32:=by rw [List.length_map];exact hY
 haveI i0:PC Tryz.prog 10 [] True (.p (.b true)):=⟨fun _=>a0⟩
 haveI i1:PC Tryz.prog 9 [mV m] True (.p (.b G1)):=⟨fun _=>g1⟩
 haveI i2:PC Tryz.prog 9 [mV n] True (.p (.b G2)):=⟨fun _=>g2⟩
 clear a0 g1 g2
 cases G1 with
 | true=>
  clear h
  as_aux_lemma=>
   repeat' (first|refine jx21 ?_|refine jy0 ?_ ?_|exact spF|refine spQ fun hq hq'=>?_|refine spN fun hn=>?_|fail)
   exact rt1 rfl rfl finS_p rfl
 | false=>
 cases G2 with
 | true=>
  clear h
  as_aux_lemma=>
   repeat' (first|refine jx21 ?_|refine jy0 ?_ ?_|exact spF|refine spQ fun hq hq'=>?_|refine spN fun hn=>?_|fail)
   exact rt1 rfl rfl finS_p rfl
 | false=>
 by_cases hlb:3000 < b.length
 ·have d1:decide (3000 < (b.length:Int))=true:=decide_eq_true (by omega)
  clear h
  as_aux_lemma=>
   repeat' (first|refine jx21 ?_|refine jy0 ?_ ?_|exact spF|refine spQ fun hq hq'=>?_|refine spN fun hn=>?_|fail)
   exact rt1 rfl rfl finS_p rfl
 have d1:decide (3000 < (b.length:Int))=false:=decide_eq_false (by omega)
 obtain ⟨oA,hQ,hf,hR0,hR1,p1,p2,p3,p4,p5,p6,p7,p8,p9,pa,pb,pc,pd⟩:=h rfl rfl (by omega)
 haveI i3:PC Tryz.prog 11 [mV m] True (mV m):=⟨fun _=>p1⟩
 haveI i4:PC Tryz.prog 11 [mV n] True (mV n):=⟨fun _=>p2⟩
 haveI i5:PC Tryz.prog 11 [mV Y] True (mV Y):=⟨fun _=>p3⟩
 haveI i6:PC Tryz.prog 12 [mV m] True (.tup [.one (.p (.sl 1 (A.map bR) false)),.one (.p (.i e))]):=⟨fun _=>p4⟩
 haveI i7:PC Tryz.prog 13 [.p (.sl 1 (b.map bR) false)] True (.tup [.agg (mL Y),.one (.p (.i f))]):=⟨fun _=>p5⟩
 haveI i9:PC Tryz.prog 15 [mV m] True (.p (.b R)):=⟨fun _=>p7⟩
 haveI ia:PC Tryz.prog 16 [mV m] True (.p (.b R)):=⟨fun _=>p8⟩
 haveI ib:PC Tryz.prog 17 [mV m,mV n] True (.p (.b S)):=⟨fun _=>p9⟩
 haveI ic:PC Tryz.prog 18 [mV m,mV n] True (.p (.b S)):=⟨fun _=>pa⟩
 haveI id':PC Tryz.prog 18 [mV Y,mV Y] True (.p (.b true)):=⟨fun _=>pb⟩
 haveI ie:PC Tryz.prog 19 [mV m] True (.p (.b Q)):=⟨fun _=>pc⟩
 clear p1 p2 p3 p4 p5 p7 p8 p9 pa pb pc h
 have t0:(!true)=false:=rfl
 have t1:(!false)=true:=rfl
 have eS:(S != S)=false:=by cases S<;>rfl
 have eR:(R != R)=false:=by cases R<;>rfl
 have eQ:(decide (0 < m.kind)=false∧(Q != false)=false)∨(decide (0 < m.kind)=true∧(Q != decide (m.kind < 4))=false):=by
  rw [hQ]
  cases decide (0 < m.kind) with
  | false=>exact .inl ⟨rfl,rfl⟩
  | true=>exact .inr ⟨rfl,by cases decide (m.kind < 4)<;>rfl⟩
 clear hQ hm hn hY
 have key:∀ {X:Prop},(∀ E:Bool,decide (f=0)=E→(E=false→decide (f≠3)=false)→(decide (f=0) != E)=false→X)→X:=fun k=>by
  rcases hf with rfl|rfl
  ·exact k true rfl (fun h=>by cases h) rfl
  ·exact k false rfl (fun _=>rfl) rfl
 repeat' (first|refine jx14 ?_|fail)
 refine aws_draws [(4,7),(5,8),(6,7),(7,8)] mixed (by kernel_rfl) ?_
 repeat' (first|refine jx15 ?_|refine jy1 ?_ ?_|exact spF|refine spQ fun hq hq'=>?_|fail)
 repeat' (first|refine jx14 ?_|fail)
 refine key fun E hE hE2 hE3=>?_
 rw [hE] at p6
 haveI i8:PC Tryz.prog 14 [.p (.sl 1 (b.map bR) false)] True (.tup [.agg (mL Y),.one (.p (.b E))]):=⟨fun _=>p6⟩
 clear p6 key hf hE
 cases R with
 | false=>
  obtain ⟨rfl,rfl⟩:=hR0 rfl
  clear hR0 hR1 pd
  cases E with
  | true=>
   clear hE2
   rcases eQ with ⟨q1,q2⟩ | ⟨q1,q2⟩
   all_goals
    as_aux_lemma=>
     repeat' (first|refine jx21 ?_|refine jy0 ?_ ?_|exact spF|refine spQ fun hq hq'=>?_|refine spN fun hn=>?_|fail)
     exact rt1 rfl rfl finS_p rfl
  | false=>
   have hE2:=hE2 rfl
   rcases eQ with ⟨q1,q2⟩ | ⟨q1,q2⟩
   all_goals
    as_aux_lemma=>
     repeat' (first|refine jx21 ?_|refine jy0 ?_ ?_|exact spF|refine spQ fun hq hq'=>?_|refine spN fun hn=>?_|fail)
     exact rt1 rfl rfl finS_p rfl
 | true=>
  obtain rfl:=hR1 rfl
  haveI iw:PC Tryz.prog 20 [mV m] True (.p (.sl 1 (A.map bR) false)):=⟨fun _=>pd rfl⟩
  clear hR0 hR1 pd
  cases E with
  | true=>
   clear hE2
   rcases eQ with ⟨q1,q2⟩ | ⟨q1,q2⟩
   all_goals
    as_aux_lemma=>
     repeat' (first|refine jx21 ?_|refine jy0 ?_ ?_|exact spF|refine spQ fun hq hq'=>?_|refine spN fun hn=>?_|fail)
     exact rt1 rfl rfl finS_p (rb (decide_eq_true rfl).symm)
  | false=>
   have hE2:=hE2 rfl
   rcases eQ with ⟨q1,q2⟩ | ⟨q1,q2⟩
   all_goals
    as_aux_lemma=>
     repeat' (first|refine jx21 ?_|refine jy0 ?_ ?_|exact spF|refine spQ fun hq hq'=>?_|refine spN fun hn=>?_|fail)
     exact rt1 rfl rfl finS_p (rb (decide_eq_true rfl).symm)
end Go.Proofs.YtcbhmngagibhmaaGreat.Wi
