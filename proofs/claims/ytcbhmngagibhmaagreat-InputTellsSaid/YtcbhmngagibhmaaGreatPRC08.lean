/- inputs: with just what a kind has; which may be -/
import Derived.Test.YtcbhmngagibhmaaGreatPRC02
import Derived.Test.YtcbhmngagibhmaaGreatPRA33
namespace Go.Proofs.YtcbhmngagibhmaaGreat.Wi
open Go Go.RowKit Go.Aw Go.Aw.Cart Go.Aw.Tree Go.Proofs.YtcbhmngagibhmaaGreat.Ca Go.Proofs.YtcbhmngagibhmaaGreat.Rg
set_option linter.unusedVariables false
set_option linter.unusedSimpArgs false
set_option maxRecDepth 8000
set_option maxHeartbeats 4000000
open I1
theorem iown_g (x:Inp) (M Z:List AC) (hM:M.length=40) (hF:∀ (σ:St) (K:Nat→Bool),All2 (FinC σ K) M M) (hZ:∀ (σ:St) (K:Nat→Bool),All2 (FinC σ K) zMC Z):PCall Tryz.prog 114 [.a (iC x M)] (.a (iC (ownI x) (if x.kind=5 then M else Z))):=by
 refine pcall_of Tryz.func114 rfl (fun w0 F S0 M0=>?_)
 have hz40:=zMC_len
 by_cases q1:x.kind=1
 ·have d1:decide (x.kind=1)=true:=decide_eq_true q1
  have e:ownI x=⟨x.kind,x.id,x.key,x.op,0,zeroM⟩:=by simp [ownI,q1]
  rw [e,if_neg (by omega)]
  clear e
  repeat' (first|refine jx24 ?_|refine jy0 ?_ ?_|exact spF|refine spQ fun hq hq'=>?_|refine spN fun hn=>?_|fail)
  refine aws_draws [(7,3),(9,3),(11,3)] mixed (by kernel_rfl) ?_
  repeat' (first|refine jx25 ?_|refine jy1 ?_ ?_|exact spF|refine spQ fun hq hq'=>?_|fail)
  as_aux_lemma=>
   repeat' (first|refine jx24 ?_|refine jy0 ?_ ?_|exact spF|refine spQ fun hq hq'=>?_|refine spN fun hn=>?_|fail)
   exact rc1 rfl rfl rfl rfl rfl (il47 hz40) (finI (hZ _ _)) rfl
 have d1:decide (x.kind=1)=false:=decide_eq_false q1
 by_cases q2:x.kind=2
 ·have d2:decide (x.kind=2)=true:=decide_eq_true q2
  have e:ownI x=⟨x.kind,x.id,x.key,(0,0,0),0,zeroM⟩:=by simp [ownI,q2]
  rw [e,if_neg (by omega)]
  clear e
  repeat' (first|refine jx24 ?_|refine jy0 ?_ ?_|exact spF|refine spQ fun hq hq'=>?_|refine spN fun hn=>?_|fail)
  refine aws_draws [(5,3),(7,3)] mixed (by kernel_rfl) ?_
  repeat' (first|refine jx25 ?_|refine jy1 ?_ ?_|exact spF|refine spQ fun hq hq'=>?_|fail)
  as_aux_lemma=>
   repeat' (first|refine jx24 ?_|refine jy0 ?_ ?_|exact spF|refine spQ fun hq hq'=>?_|refine spN fun hn=>?_|fail)
   exact rc1 rfl rfl rfl rfl rfl (il47 hz40) (finI (hZ _ _)) rfl
 have d2:decide (x.kind=2)=false:=decide_eq_false q2
 by_cases q4:x.kind=4
 ·have d4:decide (x.kind=4)=true:=decide_eq_true q4
  have e:ownI x=⟨x.kind,0,[],(0,0,0),x.draw,zeroM⟩:=by simp [ownI,q4]
  rw [e,if_neg (by omega)]
  clear e
  as_aux_lemma=>
   repeat' (first|refine jx24 ?_|refine jy0 ?_ ?_|exact spF|refine spQ fun hq hq'=>?_|refine spN fun hn=>?_|fail)
   exact rc1 rfl rfl rfl rfl rfl (il47 hz40) (finI (hZ _ _)) rfl
 have d4:decide (x.kind=4)=false:=decide_eq_false q4
 by_cases q5:x.kind=5
 ·have d5:decide (x.kind=5)=true:=decide_eq_true q5
  have e:ownI x=⟨x.kind,0,[],(0,0,0),0,x.msg⟩:=by simp [ownI,q5]
  rw [e,if_pos q5]
  clear e
  as_aux_lemma=>
   repeat' (first|refine jx24 ?_|refine jy0 ?_ ?_|exact spF|refine spQ fun hq hq'=>?_|refine spN fun hn=>?_|fail)
   exact rc1 rfl rfl rfl rfl rfl (il47 hM) (finI (hF _ _)) rfl
 have d5:decide (x.kind=5)=false:=decide_eq_false q5
 have e:ownI x=⟨x.kind,0,[],(0,0,0),0,zeroM⟩:=by simp [ownI,q1,q2,q4,q5]
 rw [e,if_neg q5]
 clear e
 as_aux_lemma=>
  repeat' (first|refine jx24 ?_|refine jy0 ?_ ?_|exact spF|refine spQ fun hq hq'=>?_|refine spN fun hn=>?_|fail)
  exact rc1 rfl rfl rfl rfl rfl (il47 hz40) (finI (hZ _ _)) rfl
theorem iown_w (x:Inp) (h:x.msg.dig.length=32):PCall Tryz.prog 114 [iV x] (iV (ownI x)):=by
 have:=iown_g x (mL x.msg) (mL zeroM) (mL_len h) (fun _ _=>fin_mL _) (fun _ _=>fin_zM)
 have e:mL (ownI x).msg=if x.kind=5 then mL x.msg else mL zeroM:=by
  unfold ownI
  dsimp only
  by_cases q:x.kind=5
  ·rw [if_pos q,if_pos q]
  ·rw [if_neg q,if_neg q]
 rw [← e] at this
 exact this
theorem iright_g (x y:Inp) (M M':List AC) [pM:PureL M] [pM':PureL M'] (hM:M.length=40) (hM':M'.length=40) (R S:Bool) (kx:okB x.key) (kl:x.key.length≤1000000) (c3:PCall Tryz.prog 15 [.a M] (.p (.b R))) (c4:PCall Tryz.prog 114 [.a (iC x M)] (.a (iC y M'))) (c5:PCall Tryz.prog 42 [.a (iC x M),.a (iC y M')] (.p (.b S))) :
  PCall Tryz.prog 39 [.a (iC x M)] (.p (.b ((if x.kind=1 then cliF x.id x.key&&mayF x.op else if x.kind=2 then cliF x.id x.key else if x.kind=5 then R else decide (1≤x.kind)&&decide (x.kind≤8))&&S))):=by
 refine pcall_of Tryz.func39 rfl (fun w0 F S0 M0=>?_)
 have c1:=client_g x M hM kx kl
 haveI i3:PC Tryz.prog 15 [.a M] True (.p (.b R)):=⟨fun _=>c3⟩
 haveI i4:PC Tryz.prog 114 [.a (iC x M)] True (.a (iC y M')):=⟨fun _=>c4⟩
 haveI i5:PC Tryz.prog 42 [.a (iC x M),.a (iC y M')] True (.p (.b S)):=⟨fun _=>c5⟩
 generalize cliF x.id x.key=A at c1 ⊢
 haveI i1:PC Tryz.prog 112 [.a (iC x M)] True (.p (.b A)):=⟨fun _=>c1⟩
 clear c1 c3 c4 c5
 by_cases q1:x.kind=1
 ·have d1:decide (x.kind=1)=true:=decide_eq_true q1
  have e1:decide (1≤x.kind)=true:=decide_eq_true (by omega)
  have e8:decide (x.kind≤8)=true:=decide_eq_true (by omega)
  rw [if_pos q1]
  cases A with
  | false=>
   rw [Bool.false_and,Bool.false_and]
   as_aux_lemma=>
    repeat' (first|refine jx23 ?_|refine jy0 ?_ ?_|exact spF|refine spQ fun hq hq'=>?_|refine spN fun hn=>?_|fail)
    exact rt1 rfl rfl finS_p rfl
  | true=>
   rw [Bool.true_and]
   cases hy:mayF x.op with
   | false=>
    rw [Bool.false_and]
    as_aux_lemma=>
     repeat' (first|refine jx23 ?_|refine jy0 ?_ ?_|exact spF|refine spQ fun hq hq'=>?_|refine spN fun hn=>?_|fail)
     exact rt1 rfl rfl finS_p rfl
   | true=>
    rw [Bool.true_and]
    as_aux_lemma=>
     repeat' (first|refine jx23 ?_|refine jy0 ?_ ?_|exact spF|refine spQ fun hq hq'=>?_|refine spN fun hn=>?_|fail)
     exact rt1 rfl rfl finS_p rfl
 have d1:decide (x.kind=1)=false:=decide_eq_false q1
 rw [if_neg q1]
 by_cases q2:x.kind=2
 ·have d2:decide (x.kind=2)=true:=decide_eq_true q2
  have e1:decide (1≤x.kind)=true:=decide_eq_true (by omega)
  have e8:decide (x.kind≤8)=true:=decide_eq_true (by omega)
  rw [if_pos q2]
  cases A with
  | false=>
   rw [Bool.false_and]
   as_aux_lemma=>
    repeat' (first|refine jx23 ?_|refine jy0 ?_ ?_|exact spF|refine spQ fun hq hq'=>?_|refine spN fun hn=>?_|fail)
    exact rt1 rfl rfl finS_p rfl
  | true=>
   rw [Bool.true_and]
   as_aux_lemma=>
    repeat' (first|refine jx23 ?_|refine jy0 ?_ ?_|exact spF|refine spQ fun hq hq'=>?_|refine spN fun hn=>?_|fail)
    exact rt1 rfl rfl finS_p rfl
 have d2:decide (x.kind=2)=false:=decide_eq_false q2
 rw [if_neg q2]
 by_cases q5:x.kind=5
 ·have d5:decide (x.kind=5)=true:=decide_eq_true q5
  have e1:decide (1≤x.kind)=true:=decide_eq_true (by omega)
  have e8:decide (x.kind≤8)=true:=decide_eq_true (by omega)
  rw [if_pos q5]
  cases R with
  | false=>
   rw [Bool.false_and]
   as_aux_lemma=>
    repeat' (first|refine jx23 ?_|refine jy0 ?_ ?_|exact spF|refine spQ fun hq hq'=>?_|refine spN fun hn=>?_|fail)
    exact rt1 rfl rfl finS_p rfl
  | true=>
   rw [Bool.true_and]
   as_aux_lemma=>
    repeat' (first|refine jx23 ?_|refine jy0 ?_ ?_|exact spF|refine spQ fun hq hq'=>?_|refine spN fun hn=>?_|fail)
    exact rt1 rfl rfl finS_p rfl
 have d5:decide (x.kind=5)=false:=decide_eq_false q5
 rw [if_neg q5]
 cases e1:decide (1≤x.kind) with
 | false=>
  rw [Bool.false_and,Bool.false_and]
  as_aux_lemma=>
   repeat' (first|refine jx23 ?_|refine jy0 ?_ ?_|exact spF|refine spQ fun hq hq'=>?_|refine spN fun hn=>?_|fail)
   exact rt1 rfl rfl finS_p rfl
 | true=>
  rw [Bool.true_and]
  cases e8:decide (x.kind≤8) with
  | false=>
   rw [Bool.false_and]
   as_aux_lemma=>
    repeat' (first|refine jx23 ?_|refine jy0 ?_ ?_|exact spF|refine spQ fun hq hq'=>?_|refine spN fun hn=>?_|fail)
    exact rt1 rfl rfl finS_p rfl
  | true=>
   rw [Bool.true_and]
   as_aux_lemma=>
    repeat' (first|refine jx23 ?_|refine jy0 ?_ ?_|exact spF|refine spQ fun hq hq'=>?_|refine spN fun hn=>?_|fail)
    exact rt1 rfl rfl finS_p rfl
theorem ownI_in {x:Inp} (h:MIn x.msg):MIn (ownI x).msg:=by
 unfold ownI
 dsimp only
 split
 ·exact h
 ·exact zeroM_in
theorem ownI_key {x:Inp} (h:okB x.key):okB (ownI x).key:=by
 unfold ownI
 dsimp only
 split
 ·exact h
 ·exact fun c hc=>by cases hc
theorem iright_w (x:Inp) (h:MIn x.msg) (kx:okB x.key) (kl:x.key.length≤1000000):PCall Tryz.prog 39 [iV x] (.p (.b (rightI x))):=
 iright_g x (ownI x) _ _ (mL_len h.d32) (mL_len (ownI_in h).d32) _ _ kx kl (mright_w x.msg h) (iown_w x h.d32) (isame_w x (ownI x) h (ownI_in h) kx (ownI_key kx))
end Go.Proofs.YtcbhmngagibhmaaGreat.Wi
namespace Go.Proofs.YtcbhmngagibhmaaGreat.Wi
open Go Go.RowKit Go.Aw Go.Aw.Cart Go.Aw.Tree Go.Proofs.YtcbhmngagibhmaaGreat.Ca Go.Proofs.YtcbhmngagibhmaaGreat.Rg
set_option linter.unusedVariables false
set_option linter.unusedSimpArgs false
set_option maxRecDepth 8000
set_option maxHeartbeats 4000000
open I4
attribute [local irreducible] smallS textS opS readM numS
theorem iread_w (b:List Nat) (hb:okB b) (hbl:b.length≤1000000000):PCall Tryz.prog 37 [.p (.sl 1 (b.map bR) false)] (.tup [.agg (iC (readI b).1 (mL (readI b).1.msg)),.one (.p (.i (readI b).2))]):=by
 refine pcall_of Tryz.func37 rfl (fun w0 F S0 M0=>?_)
 have hz40:=zMC_len
 obtain ⟨r0,hr0⟩:∃ r0:RS,r0=(b,0):=⟨_,rfl⟩
 have o0:rdOk r0:=by rw [hr0];exact ⟨hb,hbl⟩
 obtain ⟨k,r1,h1⟩:=pr_ex (smallS 8 r0)
 have o1:rdOk r1:=by have:=(par_small 8).rd o0;rwa [h1] at this
 have hin:inS (b,0)=bodyS k r1:=by
  rw [← hr0]
  simp only [inS,bindS,h1]
 haveI j0:∀ c m:Nat,OC Tryz.prog 65 [.p (.sl 1 (b.map bR) false)] [] [(c,m)] True (.o (.ptr c m 0)) [(c,(m+1,some (rdM r0)))]:=fun c m=>⟨fun _=>by rw [hr0];exact (from_o b false hbl).fresh1 c m⟩
 haveI j1:∀ q g m:Nat,OC Tryz.prog 66 [.o (.ptr q g 0),.p (.i 8)] [(q,(m,some (rdM r0)))] [] (m=g+1) (.p (.i k)) [(q,(m,some (rdM r1)))]:=fun q g m=>⟨fun h=>by obtain rfl:=h;have:=(small_o g r0 8 (by decide) o0.1 o0.2).one q;rwa [h1] at this⟩
 clear h1 o0 hr0
 repeat' (first|refine jx26 ?_|fail)
 refine aws_mid (fun x:Inp × List AC × RS=>ME x.2.1 x.1.msg∧MIn x.1.msg∧okB x.1.key∧x.1.key.length≤20∧x.1.kind=k∧rdOk x.2.2∧bodyS k r1=if k=1 then bindS opS (fun o=>pureS { x.1 with op:=o }) x.2.2 else (x.1,x.2.2)) (fun _=>[(4,.o (.ptr 9 0 0)),(5,.o (.ptr 5 0 0)),(2,.o (.ptr 2 0 0))]) (fun x=>[(9,(1,some (rdM x.2.2))),(5,(1,some (.box 81 (iC x.1 x.2.1)))),(2,(1,some (.box 81 (.p (.i 0)::.p (.i 0)::.p (.v (.string ByteArray.empty))::.p (.i 0)::.p (.i 0)::.p (.i 0)::.p (.k .u64 0)::zMC))))]) ?_ ?_
 ·clear hin
  by_cases q1:k=1∨k=2
  ·obtain ⟨i,r2,h2⟩:=pr_ex (smallS 1099511627776 r1)
   have o2:rdOk r2:=by have:=(par_small 1099511627776).rd o1;rwa [h2] at this
   have tf:=text_fit (most:=20) (by decide) r2 o2
   obtain ⟨s,r3,h3⟩:=pr_ex (textS 20 r2)
   have o3:rdOk r3:=by have:=(par_text 20).rd o2;rwa [h3] at this
   rw [h3] at tf
   dsimp only at tf
   obtain ⟨ks,ls⟩:=tf
   have eb:bodyS k r1=if k=1 then bindS opS (fun o=>pureS ⟨k,i,s,o,0,zeroM⟩) r3 else (⟨k,i,s,(0,0,0),0,zeroM⟩,r3):=by
    unfold bodyS
    rcases q1 with q|q
    ·rw [if_pos q,if_pos q]
     simp only [bindS,h2,h3]
    ·rw [if_neg (by omega),if_pos q,if_neg (by omega)]
     simp only [bindS,h2,h3,pureS]
   haveI j2:∀ q g m:Nat,OC Tryz.prog 66 [.o (.ptr q g 0),.p (.i 1099511627776)] [(q,(m,some (rdM r1)))] [] (m=g+1) (.p (.i i)) [(q,(m,some (rdM r2)))]:=fun q g m=>⟨fun h=>by obtain rfl:=h;have:=(small_o g r1 1099511627776 (by decide) o1.1 o1.2).one q;rwa [h2] at this⟩
   haveI j3:∀ q g m:Nat,OC Tryz.prog 102 [.o (.ptr q g 0),.p (.i 20)] [(q,(m,some (rdM r2)))] [] (m=g+1) (.p (.sl 1 (s.map bR) false)) [(q,(m,some (rdM r3)))]:=fun q g m=>⟨fun h=>by obtain rfl:=h;have:=(rtext_o g r2 20 (by decide) o2).one q;rwa [h3] at this⟩
   have d1:decide (k=1)=true∨(decide (k=1)=false∧decide (k=2)=true):=by
    rcases q1 with q|q
    ·exact .inl (decide_eq_true q)
    ·exact .inr ⟨decide_eq_false (by omega),decide_eq_true q⟩
   clear h2 h3 o1 o2 q1
   have ls3:s.length≤1000000000:=by omega
   rcases d1 with d1 | ⟨d1,d2⟩
   all_goals
    repeat' (first|refine jx24 ?_|refine jy0 ?_ ?_|exact spF|refine spQ fun hq hq'=>?_|refine spN fun hn=>?_|fail)
    refine aws_draws [(1,9),(3,9),(6,5),(8,5)] mixed (by kernel_rfl) ?_
    repeat' (first|refine jx25 ?_|refine jy1 ?_ ?_|exact spF|refine spQ fun hq hq'=>?_|fail)
    as_aux_lemma=>
     repeat' (first|refine jx24 ?_|refine jy0 ?_ ?_|exact spF|refine spQ fun hq hq'=>?_|refine spN fun hn=>?_|fail)
     exact ⟨(⟨k,i,s,(0,0,0),0,zeroM⟩,zMC,r3),⟨me_zero,zeroM_in,ks,by dsimp only;omega,rfl,o3,eb⟩,by exact knA,by exact knA⟩
  have d1:decide (k=1)=false:=decide_eq_false fun q=>q1 (.inl q)
  have d2:decide (k=2)=false:=decide_eq_false fun q=>q1 (.inr q)
  by_cases q4:k=4
  ·have d4:decide (k=4)=true:=decide_eq_true q4
   obtain ⟨n,r2,h2⟩:=pr_ex (numS r1)
   have o2:rdOk r2:=by have:=par_num.rd o1;rwa [h2] at this
   have eb:bodyS k r1=if k=1 then bindS opS (fun o=>pureS ⟨k,0,[],o,n,zeroM⟩) r2 else (⟨k,0,[],(0,0,0),n,zeroM⟩,r2):=by
    unfold bodyS
    rw [if_neg (by omega),if_neg (by omega),if_pos q4,if_neg (by omega)]
    simp only [bindS,h2,pureS]
   haveI j2:∀ q g m:Nat,OC Tryz.prog 103 [.o (.ptr q g 0)] [(q,(m,some (rdM r1)))] [] (m=g+1) (.p (.k .u64 (n:Int))) [(q,(m,some (rdM r2)))]:=fun q g m=>⟨fun h=>by obtain rfl:=h;have:=(rnum_o g r1 o1.1 o1.2).one q;rwa [h2] at this⟩
   clear h2 o1
   as_aux_lemma=>
    repeat' (first|refine jx24 ?_|refine jy0 ?_ ?_|exact spF|refine spQ fun hq hq'=>?_|refine spN fun hn=>?_|fail)
    exact ⟨(⟨k,0,[],(0,0,0),n,zeroM⟩,zMC,r2),⟨me_zero,zeroM_in,nil_ok,Nat.zero_le _,rfl,o2,eb⟩,by exact knA,by exact knA⟩
  have d4:decide (k=4)=false:=decide_eq_false q4
  by_cases q5:k=5
  ·have d5:decide (k=5)=true:=decide_eq_true q5
   have tf:=text_fit (most:=16777216) (by decide) r1 o1
   obtain ⟨s,r2,h2⟩:=pr_ex (textS 16777216 r1)
   have o2:rdOk r2:=by have:=(par_text 16777216).rd o1;rwa [h2] at this
   rw [h2] at tf
   dsimp only at tf
   obtain ⟨ks,ls⟩:=tf
   have cM:=mread_w s ks (by omega)
   have mi:=readM_in ks (show s.length≤1000000000 by omega)
   have o3:rdOk (mustS (decide ((readM s).2=0)) r2):=(par_must _).rd o2
   have eb:bodyS k r1=if k=1 then bindS opS (fun o=>pureS ⟨k,0,[],o,0,(readM s).1⟩) (mustS (decide ((readM s).2=0)) r2) else (⟨k,0,[],(0,0,0),0,(readM s).1⟩,mustS (decide ((readM s).2=0)) r2):=by
    unfold bodyS
    rw [if_neg (by omega),if_neg (by omega),if_neg q4,if_pos q5,if_neg (by omega)]
    simp only [bindS,h2,pureS,mustU]
   generalize (readM s).1=m at *
   generalize (readM s).2=e at *
   have hm40:=mL_len mi.d32
   have me:=me_self mi.d32
   haveI j2:∀ q g m:Nat,OC Tryz.prog 102 [.o (.ptr q g 0),.p (.i 16777216)] [(q,(m,some (rdM r1)))] [] (m=g+1) (.p (.sl 1 (s.map bR) false)) [(q,(m,some (rdM r2)))]:=fun q g m=>⟨fun h=>by obtain rfl:=h;have:=(rtext_o g r1 16777216 (by decide) o1).one q;rwa [h2] at this⟩
   haveI j3:PC Tryz.prog 13 [.p (.sl 1 (s.map bR) false)] True (.tup [.agg (mL m),.one (.p (.i e))]):=⟨fun _=>cM⟩
   clear h2 o1 cM
   revert me hm40
   generalize mL m=M at j3 ⊢
   intro hm40 me
   as_aux_lemma=>
    repeat' (first|refine jx24 ?_|refine jy0 ?_ ?_|exact spF|refine spQ fun hq hq'=>?_|refine spN fun hn=>?_|fail)
    exact ⟨(⟨k,0,[],(0,0,0),0,m⟩,M,_),⟨me,mi,nil_ok,Nat.zero_le _,rfl,o3,eb⟩,by exact knA,by exact knA⟩
  have d5:decide (k=5)=false:=decide_eq_false q5
  have eb:bodyS k r1=if k=1 then bindS opS (fun o=>pureS ⟨k,0,[],o,0,zeroM⟩) r1 else (⟨k,0,[],(0,0,0),0,zeroM⟩,r1):=by
   unfold bodyS
   rw [if_neg (fun q=>q1 (.inl q)),if_neg (fun q=>q1 (.inr q)),if_neg q4,if_neg q5,if_neg (fun q=>q1 (.inl q))]
   rfl
  as_aux_lemma=>
   repeat' (first|refine jx24 ?_|refine jy0 ?_ ?_|exact spF|refine spQ fun hq hq'=>?_|refine spN fun hn=>?_|fail)
   exact ⟨(⟨k,0,[],(0,0,0),0,zeroM⟩,zMC,r1),⟨me_zero,zeroM_in,nil_ok,Nat.zero_le _,rfl,o1,eb⟩,by exact knA,by exact knA⟩
 rintro ⟨X,M,q⟩ ν ⟨me,mi,kx,kl,hk,oq,eb⟩
 dsimp only at me mi kx kl hk oq eb ⊢
 clear j0 j1 o1
 obtain ⟨pM,hM,hF,hE⟩:=me
 by_cases q1:k=1
 ·rw [if_pos q1] at eb
  have d1:decide (X.kind=1)=true:=decide_eq_true (hk.trans q1)
  obtain ⟨o,q2,h2⟩:=pr_ex (opS q)
  have hri:readI b=if endS q2≠0∨rightI { X with op:=o }=false then (zeroI,3) else ({ X with op:=o },0):=readI_of (by rw [hin,eb];simp only [bindS,h2,pureS])
  rw [hri]
  have cR:=(iright_w { X with op:=o } mi kx (by dsimp only;omega)).ent (.cons (hE _) .nil)
  haveI j2:∀ p g m:Nat,OC Tryz.prog 105 [.o (.ptr p g 0)] [(p,(m,some (rdM q)))] [] (m=g+1) (opV o) [(p,(m,some (rdM q2)))]:=fun p g m=>⟨fun h=>by obtain rfl:=h;have:=(etake_o g q oq).one p;rw [h2] at this;exact this⟩
  generalize rightI { X with op:=o }=R at cR ⊢
  haveI j3:PC Tryz.prog 39 [.a (.p (.i X.kind)::.p (.i X.id)::.p (.v (.string (strOf X.key)))::.p (.i o.1)::.p (.i o.2.1)::.p (.i o.2.2)::.p (.k .u64 (X.draw:Int))::M)] True (.p (.b R)):=⟨fun _=>cR⟩
  clear cR hri h2 oq eb hin
  by_cases hz:endS q2=0
  ·have d2:decide (endS q2≠0)=false:=decide_eq_false fun h=>h hz
   cases R with
   | true=>
    have t0:(!true)=false:=rfl
    rw [if_neg (by intro h;rcases h with h|h;exact h hz;cases h)]
    as_aux_lemma=>
     repeat' (first|refine jx24 ?_|refine jy0 ?_ ?_|exact spF|refine spQ fun hq hq'=>?_|refine spN fun hn=>?_|fail)
     exact rc2 rfl rfl rfl rfl rfl (il47 hM) (finI (hF _ _)) rfl finS_p rfl
   | false=>
    have t0:(!false)=true:=rfl
    rw [if_pos (.inr rfl)]
    as_aux_lemma=>
     repeat' (first|refine jx24 ?_|refine jy0 ?_ ?_|exact spF|refine spQ fun hq hq'=>?_|refine spN fun hn=>?_|fail)
     exact rc2 rfl rfl rfl rfl rfl (il47 hz40) (finI fin_zM) rfl finS_p rfl
  ·have d2:decide (endS q2≠0)=true:=decide_eq_true hz
   rw [if_pos (.inl hz)]
   as_aux_lemma=>
    repeat' (first|refine jx24 ?_|refine jy0 ?_ ?_|exact spF|refine spQ fun hq hq'=>?_|refine spN fun hn=>?_|fail)
    exact rc2 rfl rfl rfl rfl rfl (il47 hz40) (finI fin_zM) rfl finS_p rfl
 ·rw [if_neg q1] at eb
  have d1:decide (X.kind=1)=false:=decide_eq_false fun h=>q1 (hk.symm.trans h)
  have hri:readI b=if endS q≠0∨rightI X=false then (zeroI,3) else (X,0):=readI_of (by rw [hin,eb])
  rw [hri]
  have cR:=(iright_w X mi kx (by omega)).ent (.cons (hE _) .nil)
  generalize rightI X=R at cR ⊢
  haveI j3:PC Tryz.prog 39 [.a (iC X M)] True (.p (.b R)):=⟨fun _=>cR⟩
  clear cR hri oq eb hin
  by_cases hz:endS q=0
  ·have d2:decide (endS q≠0)=false:=decide_eq_false fun h=>h hz
   cases R with
   | true=>
    have t0:(!true)=false:=rfl
    rw [if_neg (by intro h;rcases h with h|h;exact h hz;cases h)]
    as_aux_lemma=>
     repeat' (first|refine jx24 ?_|refine jy0 ?_ ?_|exact spF|refine spQ fun hq hq'=>?_|refine spN fun hn=>?_|fail)
     exact rc2 rfl rfl rfl rfl rfl (il47 hM) (finI (hF _ _)) rfl finS_p rfl
   | false=>
    have t0:(!false)=true:=rfl
    rw [if_pos (.inr rfl)]
    as_aux_lemma=>
     repeat' (first|refine jx24 ?_|refine jy0 ?_ ?_|exact spF|refine spQ fun hq hq'=>?_|refine spN fun hn=>?_|fail)
     exact rc2 rfl rfl rfl rfl rfl (il47 hz40) (finI fin_zM) rfl finS_p rfl
  ·have d2:decide (endS q≠0)=true:=decide_eq_true hz
   rw [if_pos (.inl hz)]
   as_aux_lemma=>
    repeat' (first|refine jx24 ?_|refine jy0 ?_ ?_|exact spF|refine spQ fun hq hq'=>?_|refine spN fun hn=>?_|fail)
    exact rc2 rfl rfl rfl rfl rfl (il47 hz40) (finI fin_zM) rfl finS_p rfl
end Go.Proofs.YtcbhmngagibhmaaGreat.Wi
