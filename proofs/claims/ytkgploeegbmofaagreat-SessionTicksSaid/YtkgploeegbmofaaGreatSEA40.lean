/- messages: which may be -/
import Derived.Test.YtkgploeegbmofaaGreatSEA34
namespace Go.Proofs.YtkgploeegbmofaaGreat.Wi
open Go Go.RowKit Go.Aw Go.Aw.Cart Go.Aw.Tree Go.Proofs.YtkgploeegbmofaaGreat.Ca Go.Proofs.YtkgploeegbmofaaGreat.Rg
set_option linter.unusedVariables false
set_option linter.unusedSimpArgs false
set_option maxRecDepth 8000
set_option maxHeartbeats 4000000
open T4
theorem mright_g (m:Msg) (h:MIn m) (cw:PCall Tryz.prog 72 [mV m] (.p (.b (withinM m)))):PCall Tryz.prog 32 [mV m] (.p (.b (rightM m))):=by
 refine pcall_of Tryz.func32 rfl (fun w0 F S0 M0=>?_)
 have hm:=h.d32
 have h32:(m.dig.map bcD).length=32:=by rw [List.length_map];exact hm
 have hpl:=h.pl
 have hdl:=h.dl
 have hkl:=h.kl
 repeat' (first|refine jx24 ?_|refine jy0 ?_ ?_|exact spF|refine spQ fun hq hq'=>?_|refine spN fun hn=>?_|fail)
 refine aws_mid (fun b:Bool=>b=bodyM m) (fun b=>[(1,.o (.ptr 1 0 0)),(3,.p (.b b))]) (fun _=>[(1,(1,some (.box 38 (mL m))))]) ?_ ?_
 ·have c1:=fun n=>level_w m.pls false n (by omega)
  have c2:=cw
  have c3:=pright_w m.kds false (by omega) h.kd (fun k hk=>by have:=h.few k hk;omega)
  haveI i1:∀ n:Int,PC Tryz.prog 71 [.p (.sl 1 (m.pls.map iRw) false),.p (.i n)] True (.p (.b (lvlF m.pls n))):=fun n=>⟨fun _=>c1 n⟩
  by_cases q1:m.kind=1
  ·have d1:decide (m.kind=1)=true:=decide_eq_true q1
   have e:bodyM m=true:=by simp [bodyM,q1]
   as_aux_lemma=>
    repeat' (first|refine jx5 ?_|refine jy0 ?_ ?_|exact spF|refine spQ fun hq hq'=>?_|refine spN fun hn=>?_|fail)
    exact ⟨true,e.symm,by exact knA,by exact knA⟩
  have d1:decide (m.kind=1)=false:=decide_eq_false q1
  by_cases q4:m.kind=4
  ·have d4:decide (m.kind=4)=true:=decide_eq_true q4
   have e:bodyM m=true:=by simp [bodyM,q4]
   as_aux_lemma=>
    repeat' (first|refine jx5 ?_|refine jy0 ?_ ?_|exact spF|refine spQ fun hq hq'=>?_|refine spN fun hn=>?_|fail)
    exact ⟨true,e.symm,by exact knA,by exact knA⟩
  have d4:decide (m.kind=4)=false:=decide_eq_false q4
  by_cases q2:m.kind=2
  ·have d2:decide (m.kind=2)=true:=decide_eq_true q2
   have e:bodyM m=lvlF m.pls 1:=by simp [bodyM,q2]
   rw [e]
   as_aux_lemma=>
    repeat' (first|refine jx5 ?_|refine jy0 ?_ ?_|exact spF|refine spQ fun hq hq'=>?_|refine spN fun hn=>?_|fail)
    exact ⟨_,rfl,by exact knA,by exact knA⟩
  have d2:decide (m.kind=2)=false:=decide_eq_false q2
  by_cases q3:m.kind=3∨m.kind=6
  ·have e:bodyM m=(lvlF m.pls 2&&withinM m):=by rcases q3 with q|q<;>simp [bodyM,q]
   have d3:decide (m.kind=3)=true∨(decide (m.kind=3)=false∧decide (m.kind=6)=true):=by
    by_cases q:m.kind=3
    ·exact .inl (decide_eq_true q)
    ·exact .inr ⟨decide_eq_false q,decide_eq_true (q3.resolve_left q)⟩
   rw [e]
   have c4:=c1 2
   generalize withinM m=B at c2 ⊢
   generalize lvlF m.pls 2=A at c4 ⊢
   clear i1
   haveI i1:PC Tryz.prog 71 [.p (.sl 1 (m.pls.map iRw) false),.p (.i 2)] True (.p (.b A)):=⟨fun _=>c4⟩
   haveI i2:PC Tryz.prog 72 [mV m] True (.p (.b B)):=⟨fun _=>c2⟩
   clear e q3
   cases A with
   | true=>
    rw [Bool.true_and]
    rcases d3 with d3 | ⟨d3,d6⟩
    all_goals
     as_aux_lemma=>
      repeat' (first|refine jx5 ?_|refine jy0 ?_ ?_|exact spF|refine spQ fun hq hq'=>?_|refine spN fun hn=>?_|fail)
      exact ⟨_,rfl,by exact knA,by exact knA⟩
   | false=>
    rw [Bool.false_and]
    rcases d3 with d3 | ⟨d3,d6⟩
    all_goals
     as_aux_lemma=>
      repeat' (first|refine jx5 ?_|refine jy0 ?_ ?_|exact spF|refine spQ fun hq hq'=>?_|refine spN fun hn=>?_|fail)
      exact ⟨_,rfl,by exact knA,by exact knA⟩
  have d3:decide (m.kind=3)=false:=decide_eq_false fun q=>q3 (.inl q)
  have d6:decide (m.kind=6)=false:=decide_eq_false fun q=>q3 (.inr q)
  by_cases q5:m.kind=5
  ·have d5:decide (m.kind=5)=true:=decide_eq_true q5
   have e:bodyM m=((lvlF m.pls 0||lvlF m.pls 1)&&decide ((m.dgs.length:Int)=4 * m.pls.length)):=by simp [bodyM,q5]
   rw [e]
   have c4:=c1 0
   have c5:=c1 1
   generalize lvlF m.pls 0=A at c4 ⊢
   generalize lvlF m.pls 1=B at c5 ⊢
   clear i1
   haveI i1:PC Tryz.prog 71 [.p (.sl 1 (m.pls.map iRw) false),.p (.i 0)] True (.p (.b A)):=⟨fun _=>c4⟩
   haveI i2:PC Tryz.prog 71 [.p (.sl 1 (m.pls.map iRw) false),.p (.i 1)] True (.p (.b B)):=⟨fun _=>c5⟩
   clear e q3
   cases A with
   | true=>
    rw [Bool.true_or,Bool.true_and]
    as_aux_lemma=>
     repeat' (first|refine jx5 ?_|refine jy0 ?_ ?_|exact spF|refine spQ fun hq hq'=>?_|refine spN fun hn=>?_|fail)
     exact ⟨_,rfl,by exact knA,by exact knA⟩
   | false=>
    rw [Bool.false_or]
    cases B with
    | true=>
     rw [Bool.true_and]
     as_aux_lemma=>
      repeat' (first|refine jx5 ?_|refine jy0 ?_ ?_|exact spF|refine spQ fun hq hq'=>?_|refine spN fun hn=>?_|fail)
      exact ⟨_,rfl,by exact knA,by exact knA⟩
    | false=>
     rw [Bool.false_and]
     as_aux_lemma=>
      repeat' (first|refine jx5 ?_|refine jy0 ?_ ?_|exact spF|refine spQ fun hq hq'=>?_|refine spN fun hn=>?_|fail)
      exact ⟨_,rfl,by exact knA,by exact knA⟩
  have d5:decide (m.kind=5)=false:=decide_eq_false q5
  by_cases q7:m.kind=7
  ·have d7:decide (m.kind=7)=true:=decide_eq_true q7
   have e:bodyM m=(decide ((m.kds.length:Int)=1)&&(keysF m.kds&&keyR (m.kds.getD 0 default).1)):=by simp [bodyM,q7]
   rw [e]
   by_cases q8:m.kds.length=1
   ·have d8:decide ((m.kds.length:Int)=1)=true:=decide_eq_true (by omega)
    rw [d8,Bool.true_and]
    have hmem:m.kds.getD 0 default∈m.kds:=by rw [getD_at (by omega)];exact List.getElem_mem _
    have ck:=keyRightL_w (m.kds.getD (Int.toNat 0) default).1 (h.kd _ hmem).key (h.kd _ hmem).len
    haveI i2:PC Tryz.prog 73 [.p (.v (.string (strOf (m.kds.getD (Int.toNat 0) default).1)))] True (.p (.b (keyR (m.kds.getD 0 default).1))):=⟨fun _=>ck⟩
    generalize keysF m.kds=B at c3 ⊢
    haveI i3:PC Tryz.prog 28 [.p (.sl 10 (m.kds.map kR) false)] True (.p (.b B)):=⟨fun _=>c3⟩
    clear e q3
    cases B with
    | true=>
     rw [Bool.true_and]
     as_aux_lemma=>
      repeat' (first|refine jx5 ?_|refine jy0 ?_ ?_|exact spF|refine spQ fun hq hq'=>?_|refine spN fun hn=>?_|fail)
      exact ⟨_,rfl,by exact knA,by exact knA⟩
    | false=>
     rw [Bool.false_and]
     as_aux_lemma=>
      repeat' (first|refine jx5 ?_|refine jy0 ?_ ?_|exact spF|refine spQ fun hq hq'=>?_|refine spN fun hn=>?_|fail)
      exact ⟨_,rfl,by exact knA,by exact knA⟩
   ·have d8:decide ((m.kds.length:Int)=1)=false:=decide_eq_false (by omega)
    rw [d8,Bool.false_and]
    as_aux_lemma=>
     repeat' (first|refine jx5 ?_|refine jy0 ?_ ?_|exact spF|refine spQ fun hq hq'=>?_|refine spN fun hn=>?_|fail)
     exact ⟨_,rfl,by exact knA,by exact knA⟩
  have d7:decide (m.kind=7)=false:=decide_eq_false q7
  have e:bodyM m=false:=by simp [bodyM,q1,q2,q4,q5,q7,show ¬ m.kind=3 from fun q=>q3 (.inl q),show ¬ m.kind=6 from fun q=>q3 (.inr q)]
  rw [e]
  clear e
  as_aux_lemma=>
   repeat' (first|refine jx5 ?_|refine jy0 ?_ ?_|exact spF|refine spQ fun hq hq'=>?_|refine spN fun hn=>?_|fail)
   exact ⟨_,rfl,by exact knA,by exact knA⟩
 ·intro b ν hb
  have c1:=psame_w m (ownM m) h (own_in h)
  haveI i1:PC Tryz.prog 76 [mV m] True (mV (ownM m)):=⟨fun _=>own_w m hm⟩
  haveI i2:PC Tryz.prog 74 [mV m] True (.p (.b (sesF m.ses m.part))):=⟨fun _=>session_w m⟩
  haveI i3:∀ n:Int,PC Tryz.prog 75 [.p (.i n)] True (.p (.b (decide (1≤n∧n≤8)))):=fun n=>⟨fun _=>isNode_w n⟩
  unfold rightM
  rw [← hb]
  generalize ownM m=m2 at *
  generalize sameM m m2=S at *
  generalize sesF m.ses m.part=E at *
  haveI i4:PC Tryz.prog 37 [mV m,mV m2] True (.p (.b S)):=⟨fun _=>c1⟩
  clear hb c1
  cases b with
  | false=>
   rw [Bool.false_and]
   as_aux_lemma=>
    repeat' (first|refine jx6 ?_|refine jy0 ?_ ?_|exact spF|refine spQ fun hq hq'=>?_|refine spN fun hn=>?_|fail)
    exact rt1 rfl rfl finS_p rfl
  | true=>
   rw [Bool.true_and]
   have key:∀ {X:Prop},((decide (m.kind=7)=true∨(decide (m.kind=7)=false∧E=true))→X)→((decide (m.kind=7)=false∧E=false)→X)→X:=fun {X} f g=>by
    by_cases q:m.kind=7
    ·exact f (.inl (decide_eq_true q))
    ·cases E with
     | true=>exact f (.inr ⟨decide_eq_false q,rfl⟩)
     | false=>exact g ⟨decide_eq_false q,rfl⟩
   refine key (fun hq=>?_) (fun hq=>?_)
   ·have e:(decide (m.kind=7)||E)=true:=by rcases hq with q | ⟨q,rfl⟩<;>rw [q]<;>rfl
    rw [e,Bool.true_and]
    clear e key
    cases d1:decide (1≤m.frm∧m.frm≤8) with
    | false=>
     rw [Bool.false_and]
     rcases hq with q | ⟨q,rfl⟩
     all_goals
      as_aux_lemma=>
       repeat' (first|refine jx6 ?_|refine jy0 ?_ ?_|exact spF|refine spQ fun hq hq'=>?_|refine spN fun hn=>?_|fail)
       exact rt1 rfl rfl finS_p rfl
    | true=>
     rw [Bool.true_and]
     cases d2:decide (1≤m.to∧m.to≤8) with
     | false=>
      rw [Bool.false_and]
      rcases hq with q | ⟨q,rfl⟩
      all_goals
       as_aux_lemma=>
        repeat' (first|refine jx6 ?_|refine jy0 ?_ ?_|exact spF|refine spQ fun hq hq'=>?_|refine spN fun hn=>?_|fail)
        exact rt1 rfl rfl finS_p rfl
     | true=>
      rw [Bool.true_and]
      cases d3:decide (m.frm≠m.to) with
      | false=>
       rw [Bool.false_and]
       rcases hq with q | ⟨q,rfl⟩
       all_goals
        as_aux_lemma=>
         repeat' (first|refine jx6 ?_|refine jy0 ?_ ?_|exact spF|refine spQ fun hq hq'=>?_|refine spN fun hn=>?_|fail)
         exact rt1 rfl rfl finS_p rfl
      | true=>
       rw [Bool.true_and]
       rcases hq with q | ⟨q,rfl⟩
       all_goals
        as_aux_lemma=>
         repeat' (first|refine jx6 ?_|refine jy0 ?_ ?_|exact spF|refine spQ fun hq hq'=>?_|refine spN fun hn=>?_|fail)
         exact rt1 rfl rfl finS_p rfl
   ·obtain ⟨q,rfl⟩:=hq
    rw [q,Bool.or_false,Bool.false_and]
    as_aux_lemma=>
     repeat' (first|refine jx6 ?_|refine jy0 ?_ ?_|exact spF|refine spQ fun hq hq'=>?_|refine spN fun hn=>?_|fail)
     exact rt1 rfl rfl finS_p rfl
end Go.Proofs.YtkgploeegbmofaaGreat.Wi
