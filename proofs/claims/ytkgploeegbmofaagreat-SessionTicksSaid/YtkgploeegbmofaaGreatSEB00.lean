/- sessions, the law SessionTicks: told of ticks alone, a session says its word again as often as its backoff may try -/
import Derived.Test.YtkgploeegbmofaaGreatSEA28
namespace Go.Proofs.YtkgploeegbmofaaGreat.Wi
open Go Go.RowKit Go.Aw Go.Aw.Cart Go.Aw.Tree Go.Proofs.YtkgploeegbmofaaGreat.Ca Go.Proofs.YtkgploeegbmofaaGreat.Rg
set_option linter.unusedVariables false
set_option linter.unusedSimpArgs false
set_option maxRecDepth 8000
set_option maxHeartbeats 4000000
def leftS (s:Ses):Int:=if s.round=0∨s.wm - s.wt < 0 then 0 else s.wm - s.wt
def TkI (s t:Ses) (i:Nat) (said:Int):Prop:=
 ((i:Int)≤leftS s∧said=i∧t.wb=s.wb∧t.wc=s.wc∧t.wm=s.wm∧t.wt=s.wt+i∧t.round=s.round∧t.pls=s.pls∧rightS t=true∧0≤t.due∧t.due≤1048576+1000 * (i:Int))∨(leftS s < i∧said=leftS s∧t.round=0∧t.pls.length≤9223372036854775807)
theorem tk_step {s t:Ses} {i:Nat} {said:Int} (hs:rightS s=true) (hc:s.wc≤1000) (hi:i < 256) (h:TkI s t i said) :
  (∃ u,tickS t t.due=(u,true)∧t.due < u.due∧u.due - t.due≤s.wc∧u.round=t.round∧TkI s u (i+1) (said+1)∧(0≤t.due∧t.due≤2000000∧0≤u.due∧u.due≤2000000))∨(∃ u,tickS t t.due=(u,false)∧TkI s u (i+1) said):=by
 rcases h with ⟨h1,h2,h3,h4,h5,h6,h7,hp,h8,h9,h10⟩ | ⟨h1,h2,h3,h4⟩
 ·by_cases r0:s.round=0
  ·right
   have hl:leftS s=0:=by unfold leftS;rw [if_pos (.inl r0)]
   refine ⟨t,?_,.inr ⟨by omega,by omega,by omega,?_⟩⟩
   ·unfold tickS;rw [if_neg (fun q=>q.2.1 (by omega))]
   ·have:=right_parts h8
    obtain ⟨_,_,_,_,_,_,hq,_,_⟩:=this
    unfold plsB at hq
    rw [if_pos (.inl (by omega))] at hq
    have:=of_decide_eq_true hq
    omega
  ·have hw:=(right_parts h8).2.2.2.2.2.2.2.1
   have hr:=Aw.Bo.right_of hw
   have hwin:Bo.win t.due 0 1099511627776=true:=decide_eq_true (by omega)
   by_cases hm:t.wm≤t.wt
   ·right
    have hl:leftS s=i:=by
     unfold leftS at h1 ⊢
     split at h1
     ·rw [if_pos (by assumption)];omega
     ·rw [if_neg (by assumption)];omega
    refine ⟨overS t,?_,.inr ⟨by omega,by omega,rfl,by show ([]:List Int).length≤_;simp⟩⟩
    unfold tickS;rw [if_pos ⟨h8,by omega,hwin,Int.le_refl _⟩,if_pos hm]
   ·left
    have hl:leftS s=s.wm - s.wt:=by unfold leftS;rw [if_neg (by omega)]
    have hx:Aw.Bo.nxF t.wt=t.wt+1:=by unfold Aw.Bo.nxF;rw [if_pos (by omega)]
    have hg:=Aw.Bo.gap_in (b:=t.wb) (c:=t.wc) (t:=(t.wt+1).toNat) (by omega) (by omega)
    have e:tickS t t.due=({ t with wt:=t.wt+1,due:=t.due+Aw.Bo.gapF t.wb t.wc (t.wt+1).toNat },true):=by
     unfold tickS;rw [if_pos ⟨h8,by omega,hwin,Int.le_refl _⟩,if_neg hm,hx]
    rw [e]
    generalize Aw.Bo.gapF t.wb t.wc (t.wt+1).toNat=G at hg e ⊢
    refine ⟨_,rfl,?_⟩
    dsimp only
    refine ⟨by omega,by omega,rfl,.inl ⟨by omega,by omega,h3,h4,h5,?_,h7,hp,?_,?_,?_⟩,by omega,by omega,by omega,by omega⟩
    ·dsimp only;omega
    ·obtain ⟨a1,a2,a3,a4,a5,a6,a7,a8,a9⟩:=right_parts h8
     exact right_of_parts ⟨a1,a2,a3,a4,a5,a6,a7,Aw.Bo.right_mk (by dsimp only;omega),by dsimp only;omega⟩
    ·dsimp only;omega
    ·dsimp only;omega
 ·right
  refine ⟨t,?_,.inr ⟨by omega,h2,h3,h4⟩⟩
  unfold tickS;rw [if_neg (fun q=>q.2.1 h3)]
theorem tk_few {s t:Ses} {i:Nat} {said:Int} (hp:s.pls.length≤9223372036854775807) (h:TkI s t i said):t.pls.length≤9223372036854775807:=by
 rcases h with ⟨_,_,_,_,_,_,_,h,_⟩ | ⟨_,_,_,h⟩
 ·rw [h];exact hp
 ·exact h
open S1
theorem sessionTicks_g (s:Ses) (n:Nat) (hn:n < 256) (hs:s.pls.length≤9223372036854775807) (ha:PCall Tryz.prog 21 [] (.p (.b true))):PCall Tryz.prog 4 [sV s,.p (.k .u8 (n:Int))] (.p (.b true)):=by
 refine pcall_of Tryz.func4 rfl (fun w0 F S0 M0=>?_)
 haveI i0:PC Tryz.prog 21 [] True (.p (.b true)):=⟨fun _=>ha⟩
 have c1:=sright_w s hs
 cases h1:rightS s with
 | false=>
  rw [h1] at c1
  haveI i1:PC Tryz.prog 20 [sV s] True (.p (.b false)):=⟨fun _=>c1⟩
  clear c1
  as_aux_lemma=>
   repeat' (first|refine jx15 ?_|refine jy0 ?_ ?_|exact spF|refine spQ fun hq hq'=>?_|refine spN fun hn=>?_|fail)
   exact rt1 rfl rfl finS_p rfl
 | true=>
 rw [h1] at c1
 haveI i1:PC Tryz.prog 20 [sV s] True (.p (.b true)):=⟨fun _=>c1⟩
 have hr:=right_parts h1
 clear c1
 by_cases h2:1048576 < s.due
 ·have d2:decide (1048576 < s.due)=true:=decide_eq_true h2
  as_aux_lemma=>
   repeat' (first|refine jx15 ?_|refine jy0 ?_ ?_|exact spF|refine spQ fun hq hq'=>?_|refine spN fun hn=>?_|fail)
   exact rt1 rfl rfl finS_p rfl
 have d2:decide (1048576 < s.due)=false:=decide_eq_false h2
 by_cases h3:100 < s.wm
 ·have d3:decide (100 < s.wm)=true:=decide_eq_true h3
  as_aux_lemma=>
   repeat' (first|refine jx15 ?_|refine jy0 ?_ ?_|exact spF|refine spQ fun hq hq'=>?_|refine spN fun hn=>?_|fail)
   exact rt1 rfl rfl finS_p rfl
 have d3:decide (100 < s.wm)=false:=decide_eq_false h3
 by_cases h4:1000 < s.wc
 ·have d4:decide (1000 < s.wc)=true:=decide_eq_true h4
  as_aux_lemma=>
   repeat' (first|refine jx15 ?_|refine jy0 ?_ ?_|exact spF|refine spQ fun hq hq'=>?_|refine spN fun hn=>?_|fail)
   exact rt1 rfl rfl finS_p rfl
 have d4:decide (1000 < s.wc)=false:=decide_eq_false h4
 obtain ⟨_,_,_,_,_,hr0,_,hw,hd⟩:=hr
 have hb:=Aw.Bo.right_of hw
 repeat' (first|refine jx15 ?_|refine jy0 ?_ ?_|exact spF|refine spQ fun hq hq'=>?_|refine spN fun hn=>?_|fail)
 refine aws_loopS [4,5,7,8,9,10,34,35,36,37,38,39,40,41,42,43,44,45,46,47,48,49,50,51,52,53,54,55,56,57,58,59,60,61,62,63,64,65,66,67,68,69,70,71,72] [6,9] (fun (x:Nat × Ses × Int × Nat × Option MO)=>[(7,.p (.i x.1)),(5,.p (.i x.2.2.1))]) (fun x=>[(6,(1,some (.box 63 (sL x.2.1)))),(9,(x.2.2.2.1,x.2.2.2.2))]) (fun x=>x.1≤n∧TkI s x.2.1 x.1 x.2.2.1) (fun x=>n - x.1) (0,s,0,0,none)
  ⟨Nat.zero_le _,.inl ⟨by unfold leftS;split<;>omega,rfl,rfl,rfl,rfl,by dsimp only;omega,rfl,rfl,h1,hd.1,by dsimp only;omega⟩⟩ (by exact knA) (by exact knA) ?_
 rintro ⟨i,t,said,g,mo⟩ β γ ⟨hi,ht⟩
 dsimp only at hi ht ⊢
 have htl:=tk_few hs ht
 by_cases hil:i < n
 ·have e1:decide ((i:Int) < (n:Int))=true:=decide_eq_true (by omega)
  have c2:=tick_w t t.due htl
  rcases tk_step h1 (by omega) (by omega) ht with ⟨u,hu,u1,u2,u3,u4,u5⟩ | ⟨u,hu,u4⟩
  ·rw [hu] at c2
   haveI i2:PC Tryz.prog 22 [sV t,.p (.i t.due)] True (.tup [.agg (sL u),.one (.p (.b true))]):=⟨fun _=>c2⟩
   have f1:decide (u.due≤t.due)=false:=decide_eq_false (by omega)
   have f2:decide (u.round≠t.round)=false:=decide_eq_false fun q=>q u3
   have f3:decide (s.wc < u.due - t.due)=false:=decide_eq_false (by omega)
   have hsd:0≤said∧said≤1000:=by
    rcases ht with ⟨_,q,_⟩ | ⟨_,q,_⟩
    ·omega
    ·unfold leftS at q;split at q<;>omega
   clear c2 hu ht
   as_aux_lemma=>
    repeat' (first|refine jx15 ?_|refine jy0 ?_ ?_|exact spF|refine spQ fun hq hq'=>?_|refine spN fun hn=>?_|fail)
    exact ⟨(i+1,u,said+1,g+1,some (.box 63 (sL u))),_,by dsimp only;omega,⟨by dsimp only;omega,u4⟩,.refl,by exact frA⟩
  ·rw [hu] at c2
   haveI i2:PC Tryz.prog 22 [sV t,.p (.i t.due)] True (.tup [.agg (sL u),.one (.p (.b false))]):=⟨fun _=>c2⟩
   clear c2 hu ht
   as_aux_lemma=>
    repeat' (first|refine jx15 ?_|refine jy0 ?_ ?_|exact spF|refine spQ fun hq hq'=>?_|refine spN fun hn=>?_|fail)
    exact ⟨(i+1,u,said,g+1,some (.box 63 (sL u))),_,by dsimp only;omega,⟨by dsimp only;omega,u4⟩,.refl,by exact frA⟩
 ·have e1:decide ((i:Int) < (n:Int))=false:=decide_eq_false (by omega)
  obtain rfl:i=n:=by omega
  clear hil
  have fin:(decide ((i:Int)≤leftS s)=true∧decide (said=(i:Int))=true)∨(decide ((i:Int)≤leftS s)=false∧decide (said=leftS s)=true∧decide (t.round=0)=true):=by
   rcases ht with ⟨q1,q2,_⟩ | ⟨q1,q2,q3,_⟩
   ·exact .inl ⟨decide_eq_true q1,decide_eq_true q2⟩
   ·exact .inr ⟨decide_eq_false (by omega),decide_eq_true q2,decide_eq_true q3⟩
  by_cases r0:s.round=0
  ·have g1:decide (s.round=0)=true:=decide_eq_true r0
   have hl:leftS s=0:=by unfold leftS;rw [if_pos (.inl r0)]
   rw [hl] at fin
   clear ht
   rcases fin with ⟨f1,f2⟩ | ⟨f1,f2,f3⟩
   all_goals
    as_aux_lemma=>
     repeat' (first|refine jx15 ?_|refine jy0 ?_ ?_|exact spF|refine spQ fun hq hq'=>?_|refine spN fun hn=>?_|fail)
     first|exact rt1 rfl rfl finS_p (rb f2.symm)|exact rt1 rfl rfl finS_p (rb f3.symm)
  have g1:decide (s.round=0)=false:=decide_eq_false r0
  by_cases r1:s.wm - s.wt < 0
  ·have g2:decide (s.wm - s.wt < 0)=true:=decide_eq_true r1
   have hl:leftS s=0:=by unfold leftS;rw [if_pos (.inr r1)]
   rw [hl] at fin
   clear ht
   rcases fin with ⟨f1,f2⟩ | ⟨f1,f2,f3⟩
   all_goals
    as_aux_lemma=>
     repeat' (first|refine jx15 ?_|refine jy0 ?_ ?_|exact spF|refine spQ fun hq hq'=>?_|refine spN fun hn=>?_|fail)
     first|exact rt1 rfl rfl finS_p (rb f2.symm)|exact rt1 rfl rfl finS_p (rb f3.symm)
  have g2:decide (s.wm - s.wt < 0)=false:=decide_eq_false r1
  have hl:leftS s=s.wm - s.wt:=by unfold leftS;rw [if_neg (by omega)]
  rw [hl] at fin
  clear ht
  rcases fin with ⟨f1,f2⟩ | ⟨f1,f2,f3⟩
  all_goals
   as_aux_lemma=>
    repeat' (first|refine jx15 ?_|refine jy0 ?_ ?_|exact spF|refine spQ fun hq hq'=>?_|refine spN fun hn=>?_|fail)
    first|exact rt1 rfl rfl finS_p (rb f2.symm)|exact rt1 rfl rfl finS_p (rb f3.symm)
end Go.Proofs.YtkgploeegbmofaaGreat.Wi
