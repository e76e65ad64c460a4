/- messages, the reference: which are the same -/
import Derived.Test.YtkgploeegbmofaaGreatOVA40
namespace Go.Proofs.YtkgploeegbmofaaGreat.Wi
open Go Go.RowKit Go.Aw Go.Aw.Cart Go.Aw.Tree Go.Proofs.YtkgploeegbmofaaGreat.Ca Go.Proofs.YtkgploeegbmofaaGreat.Rg
set_option linter.unusedVariables false
set_option linter.unusedSimpArgs false
set_option maxRecDepth 8000
set_option maxHeartbeats 4000000
open T4
theorem same_no {a b:Msg} (h:a≠b):sameM a b=false:=by
 cases q:sameM a b with
 | false=>rfl
 | true=>exact absurd (sameM_iff.1 q) h
theorem refSame26_w (a b:Msg) (ha:MIn a) (hb:MIn b):PCall Tryz.prog 45 [mV a,mV b] (.p (.b (sameM a b))):=by
 refine pcall_of Tryz.func45 rfl (fun w0 F S0 M0=>?_)
 have h1:=ha.d32
 have h2:=hb.d32
 have l1:(a.dig.map bcD).length=32:=by rw [List.length_map];exact h1
 have l2:(b.dig.map bcD).length=32:=by rw [List.length_map];exact h2
 have c1:=refSame10g_w a.kds b.kds false false (by have:=ha.kl;omega) ha.kd hb.kd (fun k hk=>by have:=ha.few k hk;omega)
 have pl:=ha.pl
 have dl:=ha.dl
 have hda:=fun d hd=>(ha.dg d hd).1
 have hdb:=fun d hd=>(hb.dg d hd).1
 clear ha hb
 by_cases q1:a.kind=b.kind
 rotate_left
 ·have d1:decide (a.kind≠b.kind)=true:=decide_eq_true q1
  rw [same_no fun e=>q1 (by rw [e])]
  as_aux_lemma=>
   repeat' (first|refine jx14 ?_|refine jy0 ?_ ?_|exact spF|refine spQ fun hq hq'=>?_|refine spN fun hn=>?_|fail)
   exact rt1 rfl rfl finS_p rfl
 have d1:decide (a.kind≠b.kind)=false:=decide_eq_false fun q=>q q1
 by_cases q2:a.frm=b.frm
 rotate_left
 ·have d2:decide (a.frm≠b.frm)=true:=decide_eq_true q2
  rw [same_no fun e=>q2 (by rw [e])]
  as_aux_lemma=>
   repeat' (first|refine jx14 ?_|refine jy0 ?_ ?_|exact spF|refine spQ fun hq hq'=>?_|refine spN fun hn=>?_|fail)
   exact rt1 rfl rfl finS_p rfl
 have d2:decide (a.frm≠b.frm)=false:=decide_eq_false fun q=>q q2
 by_cases q3:a.to=b.to
 rotate_left
 ·have d3:decide (a.to≠b.to)=true:=decide_eq_true q3
  rw [same_no fun e=>q3 (by rw [e])]
  as_aux_lemma=>
   repeat' (first|refine jx14 ?_|refine jy0 ?_ ?_|exact spF|refine spQ fun hq hq'=>?_|refine spN fun hn=>?_|fail)
   exact rt1 rfl rfl finS_p rfl
 have d3:decide (a.to≠b.to)=false:=decide_eq_false fun q=>q q3
 by_cases q4:a.ses=b.ses
 rotate_left
 ·have d4:decide (a.ses≠b.ses)=true:=decide_eq_true q4
  rw [same_no fun e=>q4 (by rw [e])]
  as_aux_lemma=>
   repeat' (first|refine jx14 ?_|refine jy0 ?_ ?_|exact spF|refine spQ fun hq hq'=>?_|refine spN fun hn=>?_|fail)
   exact rt1 rfl rfl finS_p rfl
 have d4:decide (a.ses≠b.ses)=false:=decide_eq_false fun q=>q q4
 by_cases q5:a.part=b.part
 rotate_left
 ·have d5:decide (a.part≠b.part)=true:=decide_eq_true q5
  rw [same_no fun e=>q5 (by rw [e])]
  as_aux_lemma=>
   repeat' (first|refine jx14 ?_|refine jy0 ?_ ?_|exact spF|refine spQ fun hq hq'=>?_|refine spN fun hn=>?_|fail)
   exact rt1 rfl rfl finS_p rfl
 have d5:decide (a.part≠b.part)=false:=decide_eq_false fun q=>q q5
 by_cases q6:a.dig=b.dig
 rotate_left
 ·have d6:(!decide (a.dig=b.dig))=true:=by rw [decide_eq_false q6];rfl
  rw [same_no fun e=>q6 (by rw [e])]
  as_aux_lemma=>
   repeat' (first|refine jx14 ?_|refine jy0 ?_ ?_|exact spF|refine spQ fun hq hq'=>?_|refine spN fun hn=>?_|fail)
   exact rt1 rfl rfl finS_p rfl
 have d6:(!decide (a.dig=b.dig))=false:=by rw [decide_eq_true q6];rfl
 by_cases q7:a.pls.length=b.pls.length
 rotate_left
 ·have d7:decide ((a.pls.length:Int)≠(b.pls.length:Int))=true:=decide_eq_true (by omega)
  rw [same_no fun e=>q7 (by rw [e])]
  as_aux_lemma=>
   repeat' (first|refine jx26 ?_|refine jy0 ?_ ?_|exact spF|refine spQ fun hq hq'=>?_|refine spN fun hn=>?_|fail)
   exact rt1 rfl rfl finS_p rfl
 have d7:decide ((a.pls.length:Int)≠(b.pls.length:Int))=false:=decide_eq_false (by omega)
 by_cases q8:a.dgs.length=b.dgs.length
 rotate_left
 ·have d8:decide ((a.dgs.length:Int)≠(b.dgs.length:Int))=true:=decide_eq_true (by omega)
  rw [same_no fun e=>q8 (by rw [e])]
  as_aux_lemma=>
   repeat' (first|refine jx26 ?_|refine jy0 ?_ ?_|exact spF|refine spQ fun hq hq'=>?_|refine spN fun hn=>?_|fail)
   exact rt1 rfl rfl finS_p rfl
 have d8:decide ((a.dgs.length:Int)≠(b.dgs.length:Int))=false:=decide_eq_false (by omega)
 by_cases q9:a.kds=b.kds
 rotate_left
 ·rw [decide_eq_false q9] at c1
  haveI i1:PC Tryz.prog 86 [.p (.sl 10 (a.kds.map kR) false),.p (.sl 10 (b.kds.map kR) false)] True (.p (.b false)):=⟨fun _=>c1⟩
  have d9:(!false)=true:=rfl
  rw [same_no fun e=>q9 (by rw [e])]
  as_aux_lemma=>
   repeat' (first|refine jx26 ?_|refine jy0 ?_ ?_|exact spF|refine spQ fun hq hq'=>?_|refine spN fun hn=>?_|fail)
   exact rt1 rfl rfl finS_p rfl
 rw [decide_eq_true q9] at c1
 haveI i1:PC Tryz.prog 86 [.p (.sl 10 (a.kds.map kR) false),.p (.sl 10 (b.kds.map kR) false)] True (.p (.b true)):=⟨fun _=>c1⟩
 have d9:(!true)=false:=rfl
 clear c1
 repeat' (first|refine jx26 ?_|fail)
 refine aws_loopS (2::3::4::[4,5,71,72,73,74,75,76,77,78,79,80,81,82,83,84,85,86,87,88]) [2,3] (fun (i:Nat)=>[(5,.p (.i i)),(2,.o (.ptr 2 0 0)),(3,.o (.ptr 3 0 0))]) (fun _=>[(2,(1,some (.box 92 (mL a)))),(3,(1,some (.box 92 (mL b))))]) (fun i=>i≤a.pls.length∧∀ j,j < i→a.pls.getD j default=b.pls.getD j default) (fun i=>a.pls.length - i) 0 ⟨Nat.zero_le _,fun j hj=>absurd hj (Nat.not_lt_zero _)⟩ (by exact knA) (by exact knA) ?_
 rintro i β γ ⟨hi,hx⟩
 try dsimp only at hi hx ⊢
 by_cases hil:i < a.pls.length
 ·have hlt:decide ((i:Int) < (a.pls.length:Int))=true:=decide_eq_true (by omega)
  have hib:(i:Int) < (b.pls.length:Int):=by omega
  by_cases hq:a.pls.getD (i:Int).toNat default=b.pls.getD (i:Int).toNat default
  ·have e2:decide (a.pls.getD (i:Int).toNat default≠b.pls.getD (i:Int).toNat default)=false:=decide_eq_false fun q=>q hq
   rw [Int.toNat_natCast] at hq
   repeat' (first|refine jx26 ?_|fail)
   refine ⟨i+1,_,by omega,⟨by omega,fun j hj=>?_⟩,.refl,by exact frA⟩
   by_cases ej:j=i
   ·rw [ej];exact hq
   ·exact hx j (by omega)
  ·have e2:decide (a.pls.getD (i:Int).toNat default≠b.pls.getD (i:Int).toNat default)=true:=decide_eq_true hq
   rw [same_no fun e=>hq (by rw [e])]
   as_aux_lemma=>
    repeat' (first|refine jx26 ?_|fail)
    exact rt1 rfl rfl finS_p rfl
 have hlt:decide ((i:Int) < (a.pls.length:Int))=false:=decide_eq_false (by omega)
 have qp:a.pls=b.pls:=list_eq_of q7 fun j hj=>hx j (by omega)
 clear hx hi hil
 repeat' (first|refine jx26 ?_|fail)
 refine aws_loopS (2::3::4::[4,6,89,90,91,92,93,94,95,96,97,98,99,100,101,102,103,104,105,106]) [2,3] (fun (i:Nat)=>[(6,.p (.i i)),(2,.o (.ptr 2 0 0)),(3,.o (.ptr 3 0 0))]) (fun _=>[(2,(1,some (.box 92 (mL a)))),(3,(1,some (.box 92 (mL b))))]) (fun i=>i≤a.dgs.length∧∀ j,j < i→a.dgs.getD j default=b.dgs.getD j default) (fun i=>a.dgs.length - i) 0 ⟨Nat.zero_le _,fun j hj=>absurd hj (Nat.not_lt_zero _)⟩ (by exact knA) (by exact knA) ?_
 rintro k β2 γ2 ⟨hk,hy⟩
 try dsimp only at hk hy ⊢
 by_cases hkl:k < a.dgs.length
 ·have hlt2:decide ((k:Int) < (a.dgs.length:Int))=true:=decide_eq_true (by omega)
  have hkb:(k:Int) < (b.dgs.length:Int):=by omega
  have ek:(k:Int).toNat=k:=Int.toNat_natCast k
  have m1:(a.dgs.getD (k:Int).toNat default).length=32:=hda _ (by rw [ek,getD_at hkl];exact List.getElem_mem _)
  have m2:(b.dgs.getD (k:Int).toNat default).length=32:=hdb _ (by rw [ek,getD_at (by omega)];exact List.getElem_mem _)
  by_cases hq:a.dgs.getD (k:Int).toNat default=b.dgs.getD (k:Int).toNat default
  ·have e2:(!decide (a.dgs.getD (k:Int).toNat default=b.dgs.getD (k:Int).toNat default))=false:=by rw [decide_eq_true hq];rfl
   rw [ek] at hq
   repeat' (first|refine jx26 ?_|fail)
   refine ⟨k+1,_,by omega,⟨by omega,fun j hj=>?_⟩,.refl,by exact frA⟩
   by_cases ej:j=k
   ·rw [ej];exact hq
   ·exact hy j (by omega)
  ·have e2:(!decide (a.dgs.getD (k:Int).toNat default=b.dgs.getD (k:Int).toNat default))=true:=by rw [decide_eq_false hq];rfl
   rw [same_no fun e=>hq (by rw [e])]
   as_aux_lemma=>
    repeat' (first|refine jx26 ?_|fail)
    exact rt1 rfl rfl finS_p rfl
 have hlt2:decide ((k:Int) < (a.dgs.length:Int))=false:=decide_eq_false (by omega)
 have qd:a.dgs=b.dgs:=list_eq_of q8 fun j hj=>hy j (by omega)
 have e:sameM a b=true:=sameM_iff.2 (by
  obtain ⟨a1,a2,a3,a4,a5,a6,a7,a8,a9⟩:=a
  obtain ⟨b1,b2,b3,b4,b5,b6,b7,b8,b9⟩:=b
  dsimp only at *
  rw [q1,q2,q3,q4,q5,q6,qp,qd,q9])
 rw [e]
 as_aux_lemma=>
  repeat' (first|refine jx26 ?_|fail)
  exact rt1 rfl rfl finS_p rfl
end Go.Proofs.YtkgploeegbmofaaGreat.Wi
