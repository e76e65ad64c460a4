/- messages, the reference: which may be, some kinds (printed by genr.py) -/
import Derived.Test.YtkgploeegbmofaaGreatOVA44
namespace Go.Proofs.YtkgploeegbmofaaGreat.Wi
open Go Go.RowKit Go.Aw Go.Aw.Cart Go.Aw.Tree Go.Proofs.YtkgploeegbmofaaGreat.Ca Go.Proofs.YtkgploeegbmofaaGreat.Rg
set_option linter.unusedVariables false
set_option linter.unusedSimpArgs false
set_option maxRecDepth 8000
set_option maxHeartbeats 4000000
open R4
theorem refBodyz_w (m:Msg) (h:MIn m) (hq:KOf (m.kind≠1∧m.kind≠2∧m.kind≠3∧m.kind≠6∧m.kind≠4)):PCall Tryz.prog 126 [mV m] (.p (.b (bodyR m))):=by
 refine pcall_of Tryz.func126 rfl (fun w0 F S0 M0=>?_)
 have hm:=h.d32
 have h32:(m.dig.map bcD).length=32:=by rw [List.length_map];exact hm
 have z32:zeroD.length=32:=rfl
 have kl:=h.kl
 have pl:=h.pl
 have dl:=h.dl
 have c0:=fun n=>refLevel26_w m.pls false n (by omega)
 have c1:=refWithin_w m h
 have c2:=refRight10_w m.kds false (by omega) h.kd (fun k hk=>by have:=h.few k hk;omega)
 obtain ⟨L0,h0'⟩:∃ L,L=lvlF m.pls 0:=⟨_,rfl⟩
 obtain ⟨L1,h1'⟩:∃ L,L=lvlF m.pls 1:=⟨_,rfl⟩
 obtain ⟨L2,h2'⟩:∃ L,L=lvlF m.pls 2:=⟨_,rfl⟩
 obtain ⟨W,hw⟩:∃ W,W=withinM m:=⟨_,rfl⟩
 obtain ⟨K,hk⟩:∃ K,K=keysF m.kds:=⟨_,rfl⟩
 rw [← hw] at c1
 rw [← hk] at c2
 have c3:m.kds.length=1→K=true→PC Tryz.prog 160 [.p (.v (.string (strOf (m.kds.getD (Int.toNat 0) default).1)))] True (.p (.b (keyR (m.kds.getD 0 default).1))):=fun q8 q=>⟨fun _=>by
  have hmem:m.kds.getD 0 default∈m.kds:=by rw [getD_at (by omega)];exact List.getElem_mem _
  have h20:=(keys_iff.1 (hk.symm.trans q)).key _ hmem
  exact refKeyRight_w (m.kds.getD 0 default).1 (h.kd _ hmem).key (by omega)⟩
 haveI i0:PC Tryz.prog 157 [.p (.sl 1 (m.pls.map iRw) false),.p (.i 0)] True (.p (.b L0)):=⟨fun _=>by rw [h0'];exact c0 0⟩
 haveI i1:PC Tryz.prog 157 [.p (.sl 1 (m.pls.map iRw) false),.p (.i 1)] True (.p (.b L1)):=⟨fun _=>by rw [h1'];exact c0 1⟩
 haveI i2:PC Tryz.prog 157 [.p (.sl 1 (m.pls.map iRw) false),.p (.i 2)] True (.p (.b L2)):=⟨fun _=>by rw [h2'];exact c0 2⟩
 haveI i3:PC Tryz.prog 158 [mV m] True (.p (.b W)):=⟨fun _=>c1⟩
 haveI i4:PC Tryz.prog 159 [.p (.sl 10 (m.kds.map kR) false)] True (.p (.b K)):=⟨fun _=>c2⟩
 clear c0 c1 c2 h
 refine aws_seq ?_
 refine aws_mid (fun _:Unit=>True) (fun _=>[(1,.o (.ptr 1 0 0))]) (fun _=>[(1,(1,some (.box 92 (mL m))))]) ?_ ?_
 ·repeat' (first|refine jx14 ?_|refine jy0 ?_ ?_|exact spF|refine spQ fun hq hq'=>?_|refine spN fun hn=>?_|fail)
  exact ⟨(),trivial,by exact knA,by exact knA⟩
 rintro ⟨⟩ ν1 -
 try refine aws_seq ?_
 refine aws_mid (fun z:Bool=>z=zeR m) (fun z=>[(1,.o (.ptr 1 0 0)),(3,.p (.b z))]) (fun _=>[(1,(1,some (.box 92 (mL m))))]) ?_ ?_
 ·repeat' (first|refine jx14 ?_|refine jy0 ?_ ?_|exact spF|refine spQ fun hq hq'=>?_|refine spN fun hn=>?_|fail)
  exact ⟨_,rfl,by exact knA,by exact knA⟩
 intro z ν2 hz
 try refine aws_seq ?_
 refine aws_mid (fun x:Bool × Bool × Bool=>x.1=plR m∧x.2.1=dgR m∧x.2.2=ctR m) (fun x=>[(1,.o (.ptr 1 0 0)),(3,.p (.b z)),(4,.p (.b x.1)),(5,.p (.b x.2.1)),(6,.p (.b x.2.2))]) (fun _=>[(1,(1,some (.box 92 (mL m))))]) ?_ ?_
 ·repeat' (first|refine jx26 ?_|refine jy0 ?_ ?_|exact spF|refine spQ fun hq hq'=>?_|refine spN fun hn=>?_|fail)
  exact ⟨(_,_,_),⟨rfl,rfl,rfl⟩,by exact knA,by exact knA⟩
 rintro ⟨p,d,c⟩ ν3 ⟨hp,hd,hc⟩
 dsimp only at hp hd hc ⊢
 have q1:¬ m.kind=1:=by have:=hq.v;omega
 have d1:decide (m.kind=1)=false:=decide_eq_false q1
 have q2:¬ m.kind=2:=by have:=hq.v;omega
 have d2:decide (m.kind=2)=false:=decide_eq_false q2
 have q3:¬ m.kind=3:=by have:=hq.v;omega
 have d3:decide (m.kind=3)=false:=decide_eq_false q3
 have q6:¬ m.kind=6:=by have:=hq.v;omega
 have d6:decide (m.kind=6)=false:=decide_eq_false q6
 have q4:¬ m.kind=4:=by have:=hq.v;omega
 have d4:decide (m.kind=4)=false:=decide_eq_false q4
 by_cases q5:m.kind=5
 ·have d5:decide (m.kind=5)=true:=decide_eq_true q5
  rw [show bodyR m=(z&&(c&&((L0||L1)&&decide ((m.dgs.length:Int)=4 * m.pls.length)))) by simp only [hz,hp,hd,hc,h0',h1'];simp [bodyR,q5]]
  clear hz hp hd hc
  cases z with
  | false=>
   rw [Bool.false_and]
   as_aux_lemma=>
    repeat' (first|refine jx14 ?_|refine jy0 ?_ ?_|exact spF|refine spQ fun hq hq'=>?_|refine spN fun hn=>?_|fail)
    exact rt1 rfl rfl finS_p rfl
  | true=>
   rw [Bool.true_and]
   cases c with
   | false=>
    rw [Bool.false_and]
    as_aux_lemma=>
     repeat' (first|refine jx14 ?_|refine jy0 ?_ ?_|exact spF|refine spQ fun hq hq'=>?_|refine spN fun hn=>?_|fail)
     exact rt1 rfl rfl finS_p rfl
   | true=>
    rw [Bool.true_and]
    cases L0 with
    | true=>
     rw [Bool.true_or,Bool.true_and]
     as_aux_lemma=>
      repeat' (first|refine jx14 ?_|refine jy0 ?_ ?_|exact spF|refine spQ fun hq hq'=>?_|refine spN fun hn=>?_|fail)
      exact rt1 rfl rfl finS_p rfl
    | false=>
     rw [Bool.false_or]
     cases L1 with
     | false=>
      rw [Bool.false_and]
      as_aux_lemma=>
       repeat' (first|refine jx14 ?_|refine jy0 ?_ ?_|exact spF|refine spQ fun hq hq'=>?_|refine spN fun hn=>?_|fail)
       exact rt1 rfl rfl finS_p rfl
     | true=>
      rw [Bool.true_and]
      as_aux_lemma=>
       repeat' (first|refine jx14 ?_|refine jy0 ?_ ?_|exact spF|refine spQ fun hq hq'=>?_|refine spN fun hn=>?_|fail)
       exact rt1 rfl rfl finS_p rfl
 have d5:decide (m.kind=5)=false:=decide_eq_false q5
 by_cases q7:m.kind=7
 ·have d7:decide (m.kind=7)=true:=decide_eq_true q7
  rw [show bodyR m=(z&&(p&&(d&&(decide ((m.kds.length:Int)=1)&&(K&&keyR (m.kds.getD 0 default).1))))) by simp only [hz,hp,hd,hc,hk];simp [bodyR,q7]]
  clear hz hp hd hc
  cases z with
  | false=>
   rw [Bool.false_and]
   as_aux_lemma=>
    repeat' (first|refine jx14 ?_|refine jy0 ?_ ?_|exact spF|refine spQ fun hq hq'=>?_|refine spN fun hn=>?_|fail)
    exact rt1 rfl rfl finS_p rfl
  | true=>
   rw [Bool.true_and]
   cases p with
   | false=>
    rw [Bool.false_and]
    as_aux_lemma=>
     repeat' (first|refine jx14 ?_|refine jy0 ?_ ?_|exact spF|refine spQ fun hq hq'=>?_|refine spN fun hn=>?_|fail)
     exact rt1 rfl rfl finS_p rfl
   | true=>
    rw [Bool.true_and]
    cases d with
    | false=>
     rw [Bool.false_and]
     as_aux_lemma=>
      repeat' (first|refine jx14 ?_|refine jy0 ?_ ?_|exact spF|refine spQ fun hq hq'=>?_|refine spN fun hn=>?_|fail)
      exact rt1 rfl rfl finS_p rfl
    | true=>
     rw [Bool.true_and]
     by_cases q8:m.kds.length=1
     ·have d8:decide ((m.kds.length:Int)=1)=true:=decide_eq_true (by omega)
      rw [d8,Bool.true_and]
      have ck:=c3 q8
      cases K with
      | false=>
       rw [Bool.false_and]
       as_aux_lemma=>
        repeat' (first|refine jx14 ?_|refine jy0 ?_ ?_|exact spF|refine spQ fun hq hq'=>?_|refine spN fun hn=>?_|fail)
        exact rt1 rfl rfl finS_p rfl
      | true=>
       rw [Bool.true_and]
       haveI:=ck rfl
       as_aux_lemma=>
        repeat' (first|refine jx14 ?_|refine jy0 ?_ ?_|exact spF|refine spQ fun hq hq'=>?_|refine spN fun hn=>?_|fail)
        exact rt1 rfl rfl finS_p rfl
     ·have d8:decide ((m.kds.length:Int)=1)=false:=decide_eq_false (by omega)
      rw [d8,Bool.false_and]
      as_aux_lemma=>
       repeat' (first|refine jx14 ?_|refine jy0 ?_ ?_|exact spF|refine spQ fun hq hq'=>?_|refine spN fun hn=>?_|fail)
       exact rt1 rfl rfl finS_p rfl
 have d7:decide (m.kind=7)=false:=decide_eq_false q7
 rw [show bodyR m=false by simp [bodyR,q1,q2,q3,q4,q5,q6,q7]]
 clear hz hp hd hc
 as_aux_lemma=>
  repeat' (first|refine jx14 ?_|refine jy0 ?_ ?_|exact spF|refine spQ fun hq hq'=>?_|refine spN fun hn=>?_|fail)
  exact rt1 rfl rfl finS_p rfl
end Go.Proofs.YtkgploeegbmofaaGreat.Wi
