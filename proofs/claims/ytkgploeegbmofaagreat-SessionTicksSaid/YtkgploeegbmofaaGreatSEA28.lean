/- sessions: told of a tick; begun; whose message; a session behind a message, plainly -/
import Derived.Test.YtkgploeegbmofaaGreatSEA27
namespace Go.Proofs.YtkgploeegbmofaaGreat.Wi
open Go Go.RowKit Go.Aw Go.Aw.Cart Go.Aw.Tree Go.Proofs.YtkgploeegbmofaaGreat.Ca Go.Proofs.YtkgploeegbmofaaGreat.Rg
set_option linter.unusedVariables false
set_option linter.unusedSimpArgs false
set_option maxRecDepth 8000
set_option maxHeartbeats 4000000
open S1
theorem ent_s {s:Ses} {c d:PVal} (h:PE c d):Ent1 (.a (sLx s (.p c))) (.a (sLx s (.p d))):=
 show Ent1 (.a (([.i s.id,.i s.self,.i s.peer,.i s.part,.i s.round,c,.i s.wb,.i s.wc,.i s.wm,.i s.wt,.i s.due]:List PVal).map .p)) (.a (([.i s.id,.i s.self,.i s.peer,.i s.part,.i s.round,d,.i s.wb,.i s.wc,.i s.wm,.i s.wt,.i s.due]:List PVal).map .p)) from
 Ent1.cells (.cons .refl (.cons .refl (.cons .refl (.cons .refl (.cons .refl (.cons h (.cons .refl (.cons .refl (.cons .refl (.cons .refl (.cons .refl .nil)))))))))))
def tickS (s:Ses) (now:Int):Ses × Bool:=
 if rightS s=true∧s.round≠0∧Bo.win now 0 1099511627776=true∧s.due≤now then
  if s.wm≤s.wt then (overS s,false)
  else ({ s with wt:=Aw.Bo.nxF s.wt,due:=now+Aw.Bo.gapF s.wb s.wc (Aw.Bo.nxF s.wt).toNat },true)
 else (s,false)
theorem right_parts {s:Ses} (h:rightS s=true):(1≤s.self∧s.self≤8)∧(1≤s.peer∧s.peer≤8)∧s.self≠s.peer∧(1≤s.id∧s.id≤1099511627776)∧(0≤s.part∧s.part≤7)∧(0≤s.round∧s.round≤3)∧plsB s.round s.pls=true∧Aw.Bo.rightB s.wb s.wc s.wm s.wt=true∧(0≤s.due∧s.due≤2199023255552):=by
 unfold rightS at h
 simp only [Bool.and_eq_true] at h
 obtain ⟨h1,h2,h3,h4,h5,h6,h7,h8,h9⟩:=h
 exact ⟨of_decide_eq_true h1,of_decide_eq_true h2,of_decide_eq_true h3,of_decide_eq_true h4,of_decide_eq_true h5,of_decide_eq_true h6,h7,h8,of_decide_eq_true h9⟩
theorem right_of_parts {s:Ses} (h:(1≤s.self∧s.self≤8)∧(1≤s.peer∧s.peer≤8)∧s.self≠s.peer∧(1≤s.id∧s.id≤1099511627776)∧(0≤s.part∧s.part≤7)∧(0≤s.round∧s.round≤3)∧plsB s.round s.pls=true∧Aw.Bo.rightB s.wb s.wc s.wm s.wt=true∧(0≤s.due∧s.due≤2199023255552)):rightS s=true:=by
 obtain ⟨h1,h2,h3,h4,h5,h6,h7,h8,h9⟩:=h
 unfold rightS
 simp only [Bool.and_eq_true]
 exact ⟨decide_eq_true h1,decide_eq_true h2,decide_eq_true h3,decide_eq_true h4,decide_eq_true h5,decide_eq_true h6,h7,h8,decide_eq_true h9⟩
theorem nx_in {t:Int} (h:0≤t∧t≤1073741824):0≤Aw.Bo.nxF t∧Aw.Bo.nxF t≤1073741824:=by
 unfold Aw.Bo.nxF;split<;>omega
theorem tick_w (s:Ses) (now:Int) (hl:s.pls.length≤9223372036854775807):PCall Tryz.prog 22 [sV s,.p (.i now)] (.tup [.agg (sL (tickS s now).1),.one (.p (.b (tickS s now).2))]):=by
 refine pcall_of Tryz.func22 rfl (fun w0 F S0 M0=>?_)
 have c1:=sright_w s hl
 unfold tickS
 by_cases h1:rightS s=true
 case neg=>
  rw [Bool.not_eq_true] at h1
  rw [h1] at c1
  haveI i1:PC Tryz.prog 20 [sV s] True (.p (.b false)):=⟨fun _=>c1⟩
  rw [if_neg (by rw [h1];exact fun q=>by cases q.1)]
  clear c1
  as_aux_lemma=>
   repeat' (first|refine jx14 ?_|refine jy0 ?_ ?_|exact spF|refine spQ fun hq hq'=>?_|refine spN fun hn=>?_|fail)
   exact rc2 rfl rfl rfl rfl rfl rfl (finSe .p) rfl finS_p rfl
 have hp:=right_parts h1
 rw [h1] at c1
 haveI i1:PC Tryz.prog 20 [sV s] True (.p (.b true)):=⟨fun _=>c1⟩
 clear c1
 by_cases h2:s.round=0
 ·have d2:decide (s.round=0)=true:=decide_eq_true h2
  rw [if_neg (fun q=>q.2.1 h2)]
  as_aux_lemma=>
   repeat' (first|refine jx14 ?_|refine jy0 ?_ ?_|exact spF|refine spQ fun hq hq'=>?_|refine spN fun hn=>?_|fail)
   exact rc2 rfl rfl rfl rfl rfl rfl (finSe .p) rfl finS_p rfl
 have d2:decide (s.round=0)=false:=decide_eq_false h2
 by_cases h3:Bo.win now 0 1099511627776=true
 case neg=>
  rw [Bool.not_eq_true] at h3
  have c3:=isNow_w now
  rw [h3] at c3
  haveI i3:PC Tryz.prog 55 [.p (.i now)] True (.p (.b false)):=⟨fun _=>c3⟩
  rw [if_neg (by rw [h3];exact fun q=>by cases q.2.2.1)]
  clear c3
  as_aux_lemma=>
   repeat' (first|refine jx14 ?_|refine jy0 ?_ ?_|exact spF|refine spQ fun hq hq'=>?_|refine spN fun hn=>?_|fail)
   exact rc2 rfl rfl rfl rfl rfl rfl (finSe .p) rfl finS_p rfl
 have c3:=isNow_w now
 rw [h3] at c3
 haveI i3:PC Tryz.prog 55 [.p (.i now)] True (.p (.b true)):=⟨fun _=>c3⟩
 clear c3
 by_cases h4:s.due≤now
 case neg=>
  have d4:decide (now < s.due)=true:=decide_eq_true (by omega)
  rw [if_neg (fun q=>h4 q.2.2.2)]
  as_aux_lemma=>
   repeat' (first|refine jx14 ?_|refine jy0 ?_ ?_|exact spF|refine spQ fun hq hq'=>?_|refine spN fun hn=>?_|fail)
   exact rc2 rfl rfl rfl rfl rfl rfl (finSe .p) rfl finS_p rfl
 have d4:decide (now < s.due)=false:=decide_eq_false (by omega)
 rw [if_pos ⟨h1,h2,h3,h4⟩]
 obtain ⟨_,_,_,_,_,_,_,hw,_⟩:=hp
 have hn:0≤now∧now≤1099511627776:=of_decide_eq_true h3
 have c5:=Bo.spent_w s.wb s.wc s.wm s.wt hw
 by_cases h5:s.wm≤s.wt
 ·rw [decide_eq_true h5] at c5
  haveI i5:PC Tryz.prog 56 [.a [.p (.i s.wb),.p (.i s.wc),.p (.i s.wm),.p (.i s.wt)]] True (.p (.b true)):=⟨fun _=>c5⟩
  rw [if_pos h5]
  clear c5
  as_aux_lemma=>
   repeat' (first|refine jx14 ?_|refine jy0 ?_ ?_|exact spF|refine spQ fun hq hq'=>?_|refine spN fun hn=>?_|fail)
   exact rc2 rfl rfl rfl rfl rfl rfl (finSe (s:=overS s) .p) rfl finS_p rfl
 rw [decide_eq_false h5] at c5
 haveI i5:PC Tryz.prog 56 [.a [.p (.i s.wb),.p (.i s.wc),.p (.i s.wm),.p (.i s.wt)]] True (.p (.b false)):=⟨fun _=>c5⟩
 rw [if_neg h5]
 have hr:=Aw.Bo.right_of hw
 have hx:=nx_in (t:=s.wt) (by omega)
 have h0:Aw.Bo.rightB s.wb s.wc s.wm (Aw.Bo.nxF s.wt)=true:=Aw.Bo.right_mk (by omega)
 have hg:=Aw.Bo.gap_in (b:=s.wb) (c:=s.wc) (t:=(Aw.Bo.nxF s.wt).toNat) (by omega) (by omega)
 have c6:=Bo.next_w s.wb s.wc s.wm s.wt hw
 have c7:=Bo.gap_w s.wb s.wc s.wm (Aw.Bo.nxF s.wt) h0
 generalize Aw.Bo.gapF s.wb s.wc (Aw.Bo.nxF s.wt).toNat=G at *
 generalize Aw.Bo.nxF s.wt=X at *
 haveI i6:PC Tryz.prog 58 [.a [.p (.i s.wb),.p (.i s.wc),.p (.i s.wm),.p (.i s.wt)]] True (.a [.p (.i s.wb),.p (.i s.wc),.p (.i s.wm),.p (.i X)]):=⟨fun _=>c6⟩
 haveI i7:PC Tryz.prog 59 [.a [.p (.i s.wb),.p (.i s.wc),.p (.i s.wm),.p (.i X)]] True (.p (.i G)):=⟨fun _=>c7⟩
 clear c5 c6 c7
 as_aux_lemma=>
  repeat' (first|refine jx14 ?_|refine jy0 ?_ ?_|exact spF|refine spQ fun hq hq'=>?_|refine spN fun hn=>?_|fail)
  exact rc2 rfl rfl rfl rfl rfl rfl (finSe (s:={ s with wt:=X,due:=now+G }) .p) rfl finS_p rfl
end Go.Proofs.YtkgploeegbmofaaGreat.Wi
