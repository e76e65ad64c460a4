/- messages, the reference: which may be, all kinds (printed by genr.py) -/
import Derived.Test.YtkgploeegbmofaaGreatOVA45
import Derived.Test.YtkgploeegbmofaaGreatOVA46
namespace Go.Proofs.YtkgploeegbmofaaGreat.Wi
open Go Go.RowKit Go.Aw Go.Aw.Cart Go.Aw.Tree Go.Proofs.YtkgploeegbmofaaGreat.Ca Go.Proofs.YtkgploeegbmofaaGreat.Rg
set_option linter.unusedVariables false
set_option linter.unusedSimpArgs false
set_option maxRecDepth 8000
set_option maxHeartbeats 4000000
theorem refBody_w (m:Msg) (h:MIn m):PCall Tryz.prog 126 [mV m] (.p (.b (bodyR m))):=by
 by_cases a:m.kind=1∨m.kind=2∨m.kind=6
 ·exact refBodyx_w m h ⟨a⟩
 by_cases b:m.kind=3∨m.kind=4
 ·exact refBodyy_w m h ⟨b⟩
 exact refBodyz_w m h ⟨by omega⟩
end Go.Proofs.YtkgploeegbmofaaGreat.Wi
namespace Go.Proofs.YtkgploeegbmofaaGreat.Wi
open Go Go.RowKit Go.Aw Go.Aw.Cart Go.Aw.Tree Go.Proofs.YtkgploeegbmofaaGreat.Ca Go.Proofs.YtkgploeegbmofaaGreat.Rg
set_option linter.unusedVariables false
set_option linter.unusedSimpArgs false
set_option maxRecDepth 8000
set_option maxHeartbeats 4000000
open R4
theorem refRight26_w (m:Msg) (h:MIn m):PCall Tryz.prog 84 [mV m] (.p (.b (rightM m))):=by
 rw [right_ref]
 refine pcall_of Tryz.func84 rfl (fun w0 F S0 M0=>?_)
 have hm:=h.d32
 have h32:(m.dig.map bcD).length=32:=by rw [List.length_map];exact hm
 have cB:=refBody_w m h
 generalize bodyR m=B at cB ⊢
 haveI i0:PC Tryz.prog 126 [mV m] True (.p (.b B)):=⟨fun _=>cB⟩
 clear cB
 refine aws_seq ?_
 refine aws_mid (fun _:Unit=>True) (fun _=>[(1,.o (.ptr 1 0 0))]) (fun _=>[(1,(1,some (.box 92 (mL m))))]) ?_ ?_
 ·repeat' (first|refine jx14 ?_|refine jy0 ?_ ?_|exact spF|refine spQ fun hq hq'=>?_|refine spN fun hn=>?_|fail)
  exact ⟨(),trivial,by exact knA,by exact knA⟩
 rintro ⟨⟩ ν1 -
 try refine aws_seq ?_
 refine aws_mid (fun b:Bool=>b=nodesR m) (fun b=>[(1,.o (.ptr 1 0 0)),(3,.p (.b b))]) (fun _=>[(1,(1,some (.box 92 (mL m))))]) ?_ ?_
 ·cases h1:decide (0 < m.frm) with
  | false=>
   as_aux_lemma=>
    repeat' (first|refine jx14 ?_|refine jy0 ?_ ?_|exact spF|refine spQ fun hq hq'=>?_|refine spN fun hn=>?_|fail)
    exact ⟨false,(decide_eq_false (by have:=of_decide_eq_false h1;omega)).symm,by exact knA,by exact knA⟩
  | true=>
  cases h2:decide (m.frm < 9) with
  | false=>
   as_aux_lemma=>
    repeat' (first|refine jx14 ?_|refine jy0 ?_ ?_|exact spF|refine spQ fun hq hq'=>?_|refine spN fun hn=>?_|fail)
    exact ⟨false,(decide_eq_false (by have:=of_decide_eq_false h2;omega)).symm,by exact knA,by exact knA⟩
  | true=>
  cases h3:decide (0 < m.to) with
  | false=>
   as_aux_lemma=>
    repeat' (first|refine jx14 ?_|refine jy0 ?_ ?_|exact spF|refine spQ fun hq hq'=>?_|refine spN fun hn=>?_|fail)
    exact ⟨false,(decide_eq_false (by have:=of_decide_eq_false h3;omega)).symm,by exact knA,by exact knA⟩
  | true=>
  cases h4:decide (m.to < 9) with
  | false=>
   as_aux_lemma=>
    repeat' (first|refine jx14 ?_|refine jy0 ?_ ?_|exact spF|refine spQ fun hq hq'=>?_|refine spN fun hn=>?_|fail)
    exact ⟨false,(decide_eq_false (by have:=of_decide_eq_false h4;omega)).symm,by exact knA,by exact knA⟩
  | true=>
   as_aux_lemma=>
    repeat' (first|refine jx14 ?_|refine jy0 ?_ ?_|exact spF|refine spQ fun hq hq'=>?_|refine spN fun hn=>?_|fail)
    refine ⟨decide (m.frm≠m.to),decide_eq_decide.2 ?_,by exact knA,by exact knA⟩
    have k1:=of_decide_eq_true h1
    have k2:=of_decide_eq_true h2
    have k3:=of_decide_eq_true h3
    have k4:=of_decide_eq_true h4
    omega
 intro b ν2 hb
 try refine aws_seq ?_
 refine aws_mid (fun c:Bool=>c=decide (1≤m.ses∧m.ses≤1099511627776∧0≤m.part∧m.part≤7)) (fun c=>[(1,.o (.ptr 1 0 0)),(3,.p (.b b)),(4,.p (.b c))]) (fun _=>[(1,(1,some (.box 92 (mL m))))]) ?_ ?_
 ·cases h1:decide (0 < m.ses) with
  | false=>
   as_aux_lemma=>
    repeat' (first|refine jx14 ?_|refine jy0 ?_ ?_|exact spF|refine spQ fun hq hq'=>?_|refine spN fun hn=>?_|fail)
    exact ⟨false,(decide_eq_false (by have:=of_decide_eq_false h1;omega)).symm,by exact knA,by exact knA⟩
  | true=>
  cases h2:decide (m.ses≤1099511627776) with
  | false=>
   as_aux_lemma=>
    repeat' (first|refine jx14 ?_|refine jy0 ?_ ?_|exact spF|refine spQ fun hq hq'=>?_|refine spN fun hn=>?_|fail)
    exact ⟨false,(decide_eq_false (by have:=of_decide_eq_false h2;omega)).symm,by exact knA,by exact knA⟩
  | true=>
  cases h3:decide (0≤m.part) with
  | false=>
   as_aux_lemma=>
    repeat' (first|refine jx14 ?_|refine jy0 ?_ ?_|exact spF|refine spQ fun hq hq'=>?_|refine spN fun hn=>?_|fail)
    exact ⟨false,(decide_eq_false (by have:=of_decide_eq_false h3;omega)).symm,by exact knA,by exact knA⟩
  | true=>
   as_aux_lemma=>
    repeat' (first|refine jx14 ?_|refine jy0 ?_ ?_|exact spF|refine spQ fun hq hq'=>?_|refine spN fun hn=>?_|fail)
    refine ⟨decide (m.part < 8),decide_eq_decide.2 ?_,by exact knA,by exact knA⟩
    have k1:=of_decide_eq_true h1
    have k2:=of_decide_eq_true h2
    have k3:=of_decide_eq_true h3
    omega
 intro c ν3 hc
 rw [← hb]
 clear hb
 by_cases q7:m.kind=7
 ·have d7:decide (m.kind=7)=true:=decide_eq_true q7
  rw [show headR m=decide (m.ses=0∧m.part=0) by unfold headR;rw [if_pos q7]]
  cases h1:decide (m.ses=0) with
  | false=>
   rw [decide_eq_false (show ¬ (m.ses=0∧m.part=0) by have:=of_decide_eq_false h1;omega),Bool.false_and,Bool.and_false]
   cases b with
   | false=>
    as_aux_lemma=>
     repeat' (first|refine jx26 ?_|refine jy0 ?_ ?_|exact spF|refine spQ fun hq hq'=>?_|refine spN fun hn=>?_|fail)
     exact rt1 rfl rfl finS_p rfl
   | true=>
    as_aux_lemma=>
     repeat' (first|refine jx26 ?_|refine jy0 ?_ ?_|exact spF|refine spQ fun hq hq'=>?_|refine spN fun hn=>?_|fail)
     exact rt1 rfl rfl finS_p rfl
  | true=>
   rw [show decide (m.ses=0∧m.part=0)=decide (m.part=0) from decide_eq_decide.2 (by have:=of_decide_eq_true h1;omega)]
   cases b with
   | false=>
    rw [Bool.false_and]
    as_aux_lemma=>
     repeat' (first|refine jx26 ?_|refine jy0 ?_ ?_|exact spF|refine spQ fun hq hq'=>?_|refine spN fun hn=>?_|fail)
     exact rt1 rfl rfl finS_p rfl
   | true=>
    rw [Bool.true_and]
    cases h2:decide (m.part=0) with
    | false=>
     rw [Bool.false_and]
     as_aux_lemma=>
      repeat' (first|refine jx26 ?_|refine jy0 ?_ ?_|exact spF|refine spQ fun hq hq'=>?_|refine spN fun hn=>?_|fail)
      exact rt1 rfl rfl finS_p rfl
    | true=>
     rw [Bool.true_and]
     as_aux_lemma=>
      repeat' (first|refine jx26 ?_|refine jy0 ?_ ?_|exact spF|refine spQ fun hq hq'=>?_|refine spN fun hn=>?_|fail)
      exact rt1 rfl rfl finS_p rfl
 ·have d7:decide (m.kind=7)=false:=decide_eq_false q7
  rw [show headR m=c by rw [hc];unfold headR;rw [if_neg q7]]
  clear hc
  cases b with
  | false=>
   rw [Bool.false_and]
   as_aux_lemma=>
    repeat' (first|refine jx26 ?_|refine jy0 ?_ ?_|exact spF|refine spQ fun hq hq'=>?_|refine spN fun hn=>?_|fail)
    exact rt1 rfl rfl finS_p rfl
  | true=>
   rw [Bool.true_and]
   cases c with
   | false=>
    rw [Bool.false_and]
    as_aux_lemma=>
     repeat' (first|refine jx26 ?_|refine jy0 ?_ ?_|exact spF|refine spQ fun hq hq'=>?_|refine spN fun hn=>?_|fail)
     exact rt1 rfl rfl finS_p rfl
   | true=>
    rw [Bool.true_and]
    as_aux_lemma=>
     repeat' (first|refine jx26 ?_|refine jy0 ?_ ?_|exact spF|refine spQ fun hq hq'=>?_|refine spN fun hn=>?_|fail)
     exact rt1 rfl rfl finS_p rfl
end Go.Proofs.YtkgploeegbmofaaGreat.Wi
