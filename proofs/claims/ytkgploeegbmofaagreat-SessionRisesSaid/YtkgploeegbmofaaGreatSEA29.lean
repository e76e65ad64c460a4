/- sessions: which are equal -/
import Derived.Test.YtkgploeegbmofaaGreatSEA26
namespace Go.Proofs.YtkgploeegbmofaaGreat.Wi
open Go Go.RowKit Go.Aw Go.Aw.Cart Go.Aw.Tree Go.Proofs.YtkgploeegbmofaaGreat.Ca Go.Proofs.YtkgploeegbmofaaGreat.Rg
set_option linter.unusedVariables false
set_option linter.unusedSimpArgs false
set_option maxRecDepth 8000
set_option maxHeartbeats 4000000
open S1
theorem ssame_w (a b:Ses) (hl:a.pls.length≤1000000000):PCall Tryz.prog 26 [sV a,sV b] (.p (.b (sameS a b))):=by
 refine pcall_of Tryz.func26 rfl (fun w0 F S0 M0=>?_)
 haveI i1:PC Tryz.prog 64 [.p (.sl 1 (a.pls.map iRw) false),.p (.sl 1 (b.pls.map iRw) false)] True (.p (.b (decide (a.pls=b.pls)))):=⟨fun _=>equalN_w a.pls b.pls false false hl⟩
 unfold sameS
 have e6:=vEq4 a.wb a.wc a.wm a.wt b.wb b.wc b.wm b.wt
 cases d0:decide (a.pls=b.pls) with
 | false=>
  rw [Bool.false_and]
  rw [d0] at i1
  as_aux_lemma=>
   repeat' (first|refine jx5 ?_|refine jy0 ?_ ?_|exact spF|refine spQ fun hq hq'=>?_|refine spN fun hn=>?_|fail)
   exact rt1 rfl rfl finS_p rfl
 | true=>
 rw [Bool.true_and]
 rw [d0] at i1
 cases d1:decide (a.id=b.id) with
 | false=>
  rw [Bool.false_and]
  as_aux_lemma=>
   repeat' (first|refine jx5 ?_|refine jy0 ?_ ?_|exact spF|refine spQ fun hq hq'=>?_|refine spN fun hn=>?_|fail)
   exact rt1 rfl rfl finS_p rfl
 | true=>
 rw [Bool.true_and]
 cases d2:decide (a.self=b.self) with
 | false=>
  rw [Bool.false_and]
  as_aux_lemma=>
   repeat' (first|refine jx5 ?_|refine jy0 ?_ ?_|exact spF|refine spQ fun hq hq'=>?_|refine spN fun hn=>?_|fail)
   exact rt1 rfl rfl finS_p rfl
 | true=>
 rw [Bool.true_and]
 cases d3:decide (a.peer=b.peer) with
 | false=>
  rw [Bool.false_and]
  as_aux_lemma=>
   repeat' (first|refine jx5 ?_|refine jy0 ?_ ?_|exact spF|refine spQ fun hq hq'=>?_|refine spN fun hn=>?_|fail)
   exact rt1 rfl rfl finS_p rfl
 | true=>
 rw [Bool.true_and]
 cases d4:decide (a.part=b.part) with
 | false=>
  rw [Bool.false_and]
  as_aux_lemma=>
   repeat' (first|refine jx5 ?_|refine jy0 ?_ ?_|exact spF|refine spQ fun hq hq'=>?_|refine spN fun hn=>?_|fail)
   exact rt1 rfl rfl finS_p rfl
 | true=>
 rw [Bool.true_and]
 cases d5:decide (a.round=b.round) with
 | false=>
  rw [Bool.false_and]
  as_aux_lemma=>
   repeat' (first|refine jx5 ?_|refine jy0 ?_ ?_|exact spF|refine spQ fun hq hq'=>?_|refine spN fun hn=>?_|fail)
   exact rt1 rfl rfl finS_p rfl
 | true=>
 rw [Bool.true_and]
 generalize (decide (a.wb=b.wb)&&(decide (a.wc=b.wc)&&(decide (a.wm=b.wm)&&decide (a.wt=b.wt))))=E at e6 ⊢
 cases E with
 | false=>
  rw [Bool.false_and]
  as_aux_lemma=>
   repeat' (first|refine jx5 ?_|refine jy0 ?_ ?_|exact spF|refine spQ fun hq hq'=>?_|refine spN fun hn=>?_|fail)
   exact rt1 rfl rfl finS_p rfl
 | true=>
 rw [Bool.true_and]
 as_aux_lemma=>
  repeat' (first|refine jx5 ?_|refine jy0 ?_ ?_|exact spF|refine spQ fun hq hq'=>?_|refine spN fun hn=>?_|fail)
  exact rt1 rfl rfl finS_p rfl
end Go.Proofs.YtkgploeegbmofaaGreat.Wi
