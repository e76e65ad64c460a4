/- outbox, the law OutboxLives: an op of both, what is sent -/
import Derived.Test.YtkgploeegbmofaaGreatOVA22
import Derived.Test.YtkgploeegbmofaaGreatOVA48
namespace Go.Proofs.YtkgploeegbmofaaGreat.Wi
open Go Go.RowKit Go.Aw Go.Aw.Cart Go.Aw.Tree Go.Proofs.YtkgploeegbmofaaGreat.Ca Go.Proofs.YtkgploeegbmofaaGreat.Rg
set_option linter.unusedVariables false
set_option linter.unusedSimpArgs false
set_option maxRecDepth 8000
set_option maxHeartbeats 4000000
open OD
open O3 (rnSH rkSH stoH3)
section
variable {b:Bx} {o:Obp} {n nd:Nat} {N c:Nat}
theorem do0_o (hI:BInv N c b) (hm:MIn o.msg) (hc:c≤100000) (hk:o.kind=0):OCall Tryz.prog 12 [.o (.ptr 1000 n 0),.o (.ptr 1001 nd 0),opA o] (memL [(1000,(n+1,some (bxM b))),(1001,(nd+1,some (rxM b)))]) (.p (.b true)) (memL [(1000,(n+1,some (bxM (sendB b o.msg o.mark)))),(1001,(nd+1,some (rxM (sendB b o.msg o.mark))))]):=by
 refine ocall_of22 Tryz.func12 rfl (fun w0 F S0 M0=>?_)
 have hd:=hm.d32
 have q0:decide (o.kind=0)=true:=decide_eq_true hk
 have l1:=hI.out
 have l2:=hI.l0
 have l3:b.lost≤1000000:=by have:=hI.l1;omega
 have ca:=as26_w _ hm
 haveI i1:PC Tryz.prog 39 [mV o.msg] True (mV o.msg):=⟨fun _=>ca⟩
 haveI i2:∀ q g m:Nat,OC Tryz.prog 17 [.o (.ptr q g 0),mV o.msg,.p (.i o.mark)] [(q,(m,some (bxM b)))] [] (m=g+1) (.p (.i (sendE o.msg o.mark))) [(q,(m,some (bxM (sendB b o.msg o.mark))))]:=fun q g m=>⟨fun h=>obSend_i.call ⟨h,hm,l1,l2,l3⟩⟩
 haveI i3:∀ q g m:Nat,OC Tryz.prog 38 [.o (.ptr q g 0),mV o.msg,.p (.i o.mark)] [(q,(m,some (rxM b)))] [] (m=g+1) (.p (.i (sendE o.msg o.mark))) [(q,(m,some (rxM (sendB b o.msg o.mark))))]:=fun q g m=>⟨fun h=>rxSend_i.call ⟨h,hm,l1,l2,l3⟩⟩
 have d9:decide (sendE o.msg o.mark=sendE o.msg o.mark)=true:=decide_eq_true rfl
 generalize sendB b o.msg o.mark=b' at *
 generalize sendE o.msg o.mark=e at *
 clear hI hm ca l1 l2 l3 hc hk
 repeat' (first|refine jx17 ?_|refine jy0 ?_ ?_|exact spF|refine spQ fun hq hq'=>?_|refine spN fun hn=>?_|fail)
 refine aws_draws [(5,1000),(12,1001)] mixed (by kernel_rfl) ?_
 repeat' (first|refine jx21 ?_|refine jy1 ?_ ?_|exact spF|refine spQ fun hq hq'=>?_|fail)
 as_aux_lemma=>
  repeat' (first|refine jx17 ?_|refine jy0 ?_ ?_|exact spF|refine spQ fun hq hq'=>?_|refine spN fun hn=>?_|fail)
  exact RetO.mk (ot1 rfl rfl finS_p (congrArg (fun z:Bool=>AV.p (.b z)) d9.symm)) ⟨.abs,.abs,trivial⟩
theorem do5_o (hI:BInv N c b) (hm:MIn o.msg) (hc:c≤100000) (hk:o.kind=5) (h6:o.mark≤600):OCall Tryz.prog 12 [.o (.ptr 1000 n 0),.o (.ptr 1001 nd 0),opA o] (memL [(1000,(n+1,some (bxM b))),(1001,(nd+1,some (rxM b)))]) (.p (.b true)) (memL [(1000,(n+1,some (bxM (sendsB b o.msg o.mark.toNat)))),(1001,(nd+1,some (rxM (sendsB b o.msg o.mark.toNat))))]):=by
 refine ocall_of22 Tryz.func12 rfl (fun w0 F S0 M0=>?_)
 have hd:=hm.d32
 have q0:decide (o.kind=0)=false:=decide_eq_false (by omega)
 have q1:decide (o.kind=1)=false:=decide_eq_false (by omega)
 have q2:decide (o.kind=2)=false:=decide_eq_false (by omega)
 have q3:decide (o.kind=3)=false:=decide_eq_false (by omega)
 have q4:decide (o.kind=4)=false:=decide_eq_false (by omega)
 have q5:decide (o.kind=5)=true:=decide_eq_true hk
 have ca:=as26_w _ hm
 haveI i1:PC Tryz.prog 39 [mV o.msg] True (mV o.msg):=⟨fun _=>ca⟩
 clear ca hk
 repeat' (first|refine jx17 ?_|refine jy0 ?_ ?_|exact spF|refine spQ fun hq hq'=>?_|refine spN fun hn=>?_|fail)
 refine aws_loopS [10,96,97,98,99,100,101,102,103,104,105,106,107,108,109,110,111,112] [1000,1001] (fun (x:Nat × Bx)=>[(10,.p (.i x.1))]) (fun x=>[(1000,(n+1,some (bxM x.2))),(1001,(nd+1,some (rxM x.2)))]) (fun x=>x.1≤o.mark.toNat∧x.2=sendsB b o.msg x.1) (fun x=>o.mark.toNat - x.1) (0,b) ⟨Nat.zero_le _,rfl⟩ (by exact knA) (by exact knA) ?_
 rintro ⟨i,B⟩ β γ ⟨hi,hB⟩
 dsimp only at hi hB ⊢
 have hJ:=hI.sends hm i
 rw [← hB] at hJ
 have l1:=hJ.out
 have l2:=hJ.l0
 have l3:B.lost≤1000000:=by have:=hJ.l1;omega
 by_cases hil:i < o.mark.toNat
 ·have d1:decide ((i:Int) < o.mark)=true:=decide_eq_true (by omega)
  have hs:sendsB b o.msg (i+1)=sendB B o.msg (i:Int):=by rw [hB];rfl
  haveI i2:∀ q g m:Nat,OC Tryz.prog 17 [.o (.ptr q g 0),mV o.msg,.p (.i (i:Int))] [(q,(m,some (bxM B)))] [] (m=g+1) (.p (.i (sendE o.msg (i:Int)))) [(q,(m,some (bxM (sendB B o.msg (i:Int)))))]:=fun q g m=>⟨fun h=>obSend_i.call ⟨h,hm,l1,l2,l3⟩⟩
  haveI i3:∀ q g m:Nat,OC Tryz.prog 38 [.o (.ptr q g 0),mV o.msg,.p (.i (i:Int))] [(q,(m,some (rxM B)))] [] (m=g+1) (.p (.i (sendE o.msg (i:Int)))) [(q,(m,some (rxM (sendB B o.msg (i:Int)))))]:=fun q g m=>⟨fun h=>rxSend_i.call ⟨h,hm,l1,l2,l3⟩⟩
  rw [← hs] at i2 i3
  clear hs
  generalize hB':sendsB b o.msg (i+1)=B' at i2 i3
  generalize sendE o.msg (i:Int)=e at i2 i3
  clear hJ l1 l2 l3 hI hm hB
  as_aux_lemma=>
   repeat' (first|refine jx17 ?_|refine jy0 ?_ ?_|exact spF|refine spQ fun hq hq'=>?_|refine spN fun hn=>?_|fail)
   exact ⟨(i+1,B'),_,by dsimp only;omega,⟨by dsimp only;omega,hB'.symm⟩,.refl,by exact frA⟩
 ·have d1:decide ((i:Int) < o.mark)=false:=decide_eq_false (by omega)
  obtain rfl:i=o.mark.toNat:=by omega
  rw [← hB]
  clear hJ l1 l2 l3 hI hm hB
  as_aux_lemma=>
   repeat' (first|refine jx17 ?_|refine jy0 ?_ ?_|exact spF|refine spQ fun hq hq'=>?_|refine spN fun hn=>?_|fail)
   exact RetO.mk (ot1 rfl rfl finS_p rfl) ⟨.abs,.abs,trivial⟩
end
theorem do_o (b:Bx) (o:Obp) (n nd:Nat) {N c:Nat} (hI:BInv N c b) (hm:MIn o.msg) (hN:N≤100000) (hc:c≤100000) (hl:o.ans.2.2.length≤100) (h6:o.kind=5→o.mark≤600):OCall Tryz.prog 12 [.o (.ptr 1000 n 0),.o (.ptr 1001 nd 0),opA o] (memL [(1000,(n+1,some (bxM b))),(1001,(nd+1,some (rxM b)))]) (.p (.b true)) (memL [(1000,(n+1,some (bxM (doB b o)))),(1001,(nd+1,some (rxM (doB b o))))]):=by
 unfold doB
 by_cases h0:o.kind=0
 ·rw [if_pos h0];exact do0_o hI hm hc h0
 rw [if_neg h0]
 by_cases h1:o.kind=1
 ·rw [if_pos h1];exact do1_o hI hm hN hl h1
 rw [if_neg h1]
 by_cases h2:o.kind=2
 ·rw [if_pos h2];exact do2_o hI hm h2
 rw [if_neg h2]
 by_cases h3:o.kind=3
 ·rw [if_pos h3];exact do3_o hI hm hN h3
 rw [if_neg h3]
 by_cases h4:o.kind=4
 ·rw [if_pos h4];exact do4_o hI hm hN h4
 rw [if_neg h4]
 by_cases h5:o.kind=5
 ·rw [if_pos h5];exact do5_o hI hm hc h5 (h6 h5)
 rw [if_neg h5]
 exact do6_o hm h0 h1 h2 h3 h4 h5
end Go.Proofs.YtkgploeegbmofaaGreat.Wi
