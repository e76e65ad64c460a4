/- inputs, the reference: read -/
import Derived.Test.YtcbhmngagibhmaaGreatPRC05
import Derived.Test.YtcbhmngagibhmaaGreatPRC02
import Derived.Test.YtcbhmngagibhmaaGreatPRA42
namespace Go.Proofs.YtcbhmngagibhmaaGreat.Wi
open Go Go.RowKit Go.Aw Go.Aw.Cart Go.Aw.Tree Go.Proofs.YtcbhmngagibhmaaGreat.Ca Go.Proofs.YtcbhmngagibhmaaGreat.Rg
set_option linter.unusedVariables false
set_option linter.unusedSimpArgs false
set_option maxRecDepth 8000
set_option maxHeartbeats 4000000
namespace I9
theorem lopC {C:Ctx} {o:Oper} {σ:St} {e:Eff} {ro:Nat→Bool} (h:LOp C o σ e ro:=by
  first|exact I4.lopC|exact WA.lopC|fail):LOp C o σ e ro:=h
section steps
variable {C:Ctx} {ops:Array Oper} {o:Oper} {rest:List Oper} {K:St→Prop} {σ:St} {e:Eff} {ro:Nat→Bool} {W:List (Nat × Nat)} {i:Nat}
theorem rnC {d:Nat} (hg:Guard ops σ o true:=by first|exact gd_n rfl rfl|exact gd_t rfl rfl rfl rfl|exact gd_t rfl rfl rfl (by assumption)) (hd:o.dst=some d:=by rfl) (h:LOp C o σ e ro:=by exact lopC) (hk:RunN C ops rest K (e.app (some d) σ)):RunN C ops (o::rest) K σ:=rn_any hg hd h hk
theorem rkC {d:Nat} (hg:Guard ops σ o true:=by first|exact gd_n rfl rfl|exact gd_t rfl rfl rfl rfl|exact gd_t rfl rfl rfl (by assumption)) (hd':o.dst=some d:=by rfl) (hd:dOk C o.dst=true:=by rfl) (h:LOp C o σ e ro:=by exact lopC) (hro:∀ x,ro x=true→okObj ops W i x=true:=by first|exact fun _=>ro_none|exact ro_one rfl|exact ro_k1 rfl|exact ro_one (by kernel_rfl)|exact ro_k1 (by kernel_rfl)|exact ro_kIn (by decide)) (hob:∀ p∈e.obj,(i,p.1)∈W:=by first|exact ob_none|exact ob_one (by decide)|decide) (hk:RunK C ops W (i+1) rest K (e.app (some d) σ)):RunK C ops W i (o::rest) K σ:=rk_wr hg hd' hd h hro hob hk
end steps
end I9
open I9
attribute [local irreducible] smallS textS opS readM numS
theorem refRead30_w (b:List Nat) (hb:okB b) (hbl:b.length≤1000000000):PCall Tryz.prog 38 [.p (.sl 1 (b.map bR) false)] (.tup [.agg (iC (readI b).1 (mL (readI b).1.msg)),.one (.p (.b (decide ((readI b).2=0))))]):=by
 refine pcall_of Tryz.func38 rfl (fun w0 F S0 M0=>?_)
 have hz40:=zMC_len
 obtain ⟨r0,hr0⟩:∃ r0:RS,r0=(b,0):=⟨_,rfl⟩
 have o0:RfOk b r0:=by rw [hr0];exact ⟨hb,List.suffix_refl _,hbl⟩
 obtain ⟨k,r1,h1⟩:=pr_ex (smallS 8 r0)
 have o1:RfOk b r1:=by have:=(par_small 8).rf o0;rwa [h1] at this
 have hin:inS (b,0)=bodyS k r1:=by
  rw [← hr0]
  simp only [inS,bindS,h1]
 haveI j1:∀ q g m:Nat,OC Tryz.prog 72 [.o (.ptr q g 0),.p (.i 8)] [(q,(m,some (.box 143 [.p (.sl 1 (b.map bR) false),.p (.i 0),.p (.i 0)])))] [] (m=g+1) (.p (.i k)) [(q,(m,some (rfM b r1)))]:=fun q g m=>⟨fun h=>by
  obtain rfl:=h
  have:=(rfsmall_o g b r0 8 (by decide) (by decide) o0).one q
  rw [h1,hr0] at this
  unfold rfM at this
  rw [atI_0] at this
  exact this⟩
 clear h1 o0 hr0
 repeat' (first|refine jx26 ?_|fail)
 refine aws_mid (fun x:Inp × List AC × RS=>ME x.2.1 x.1.msg∧MIn x.1.msg∧okB x.1.key∧x.1.key.length≤20∧RfOk b x.2.2∧bodyS k r1=(x.1,x.2.2)) (fun _=>[(4,.o (.ptr 10 0 0)),(5,.o (.ptr 5 0 0)),(2,.o (.ptr 2 0 0))]) (fun x=>[(10,(1,some (rfM b x.2.2))),(5,(1,some (.box 88 (iC x.1 x.2.1)))),(2,(1,some (.box 88 (.p (.i 0)::.p (.i 0)::.p (.v (.string ByteArray.empty))::.p (.i 0)::.p (.i 0)::.p (.i 0)::.p (.k .u64 0)::zMC))))]) ?_ ?_
 ·clear hin
  by_cases q1:k=1∨k=2
  ·obtain ⟨i,r2,h2⟩:=pr_ex (smallS 1099511627776 r1)
   have o2:RfOk b r2:=by have:=(par_small 1099511627776).rf o1;rwa [h2] at this
   have tf:=text_fit (most:=20) (by decide) r2 ⟨o2.byte,o2.rd⟩
   obtain ⟨s,r3,h3⟩:=pr_ex (textS 20 r2)
   have o3:RfOk b r3:=by have:=(par_text 20).rf o2;rwa [h3] at this
   rw [h3] at tf
   dsimp only at tf
   obtain ⟨ks,ls⟩:=tf
   obtain ⟨o,r4,h4⟩:=pr_ex (opS r3)
   have o4:RfOk b r4:=by have:=par_op.rf o3;rwa [h4] at this
   haveI j2:∀ q g m:Nat,OC Tryz.prog 72 [.o (.ptr q g 0),.p (.i 1099511627776)] [(q,(m,some (rfM b r1)))] [] (m=g+1) (.p (.i i)) [(q,(m,some (rfM b r2)))]:=fun q g m=>⟨fun h=>by obtain rfl:=h;have:=(rfsmall_o g b r1 1099511627776 (by decide) (by decide) o1).one q;rwa [h2] at this⟩
   haveI j3:∀ q g m:Nat,OC Tryz.prog 107 [.o (.ptr q g 0),.p (.i 20)] [(q,(m,some (rfM b r2)))] [] (m=g+1) (.p (.sl 1 (s.map bR) false)) [(q,(m,some (rfM b r3)))]:=fun q g m=>⟨fun h=>by obtain rfl:=h;have:=(rftext_o g b r2 20 (by decide) (by decide) o2).one q;rwa [h3] at this⟩
   haveI j4:∀ q g m:Nat,OC Tryz.prog 108 [.o (.ptr q g 0)] [(q,(m,some (rfM b r3)))] [] (m=g+1) (opV o) [(q,(m,some (rfM b r4)))]:=fun q g m=>⟨fun h=>by obtain rfl:=h;have:=(rfop_o g b r3 o3).one q;rw [h4] at this;exact this⟩
   have ls3:s.length≤1000000000:=by omega
   have ls20:s.length≤20:=by omega
   rcases q1 with q|q
   ·have d1:decide (k=1)=true:=decide_eq_true q
    have eb:bodyS k r1=(⟨k,i,s,o,0,zeroM⟩,r4):=by
     unfold bodyS
     rw [if_pos q]
     simp only [bindS,h2,h3,h4,pureS]
    clear h2 h3 h4 o1 o2 o3
    as_aux_lemma=>
     repeat' (first|refine jx24 ?_|refine jy0 ?_ ?_|exact spF|refine spQ fun hq hq'=>?_|refine spN fun hn=>?_|fail)
     exact ⟨(⟨k,i,s,o,0,zeroM⟩,zMC,r4),⟨me_zero,zeroM_in,ks,ls20,o4,eb⟩,by exact knA,by exact knA⟩
   ·have d1:decide (k=1)=false:=decide_eq_false (by omega)
    have d2:decide (k=2)=true:=decide_eq_true q
    have eb:bodyS k r1=(⟨k,i,s,(0,0,0),0,zeroM⟩,r3):=by
     unfold bodyS
     rw [if_neg (by omega),if_pos q]
     simp only [bindS,h2,h3,pureS]
    clear h2 h3 h4 o1 o2 o4 j4
    as_aux_lemma=>
     repeat' (first|refine jx24 ?_|refine jy0 ?_ ?_|exact spF|refine spQ fun hq hq'=>?_|refine spN fun hn=>?_|fail)
     exact ⟨(⟨k,i,s,(0,0,0),0,zeroM⟩,zMC,r3),⟨me_zero,zeroM_in,ks,ls20,o3,eb⟩,by exact knA,by exact knA⟩
  have d1:decide (k=1)=false:=decide_eq_false fun q=>q1 (.inl q)
  have d2:decide (k=2)=false:=decide_eq_false fun q=>q1 (.inr q)
  by_cases q4:k=4
  ·have d4:decide (k=4)=true:=decide_eq_true q4
   obtain ⟨n,r2,h2⟩:=pr_ex (numS r1)
   have o2:RfOk b r2:=by have:=par_num.rf o1;rwa [h2] at this
   have eb:bodyS k r1=(⟨k,0,[],(0,0,0),n,zeroM⟩,r2):=by
    unfold bodyS
    rw [if_neg (by omega),if_neg (by omega),if_pos q4]
    simp only [bindS,h2,pureS]
   haveI j2:∀ q g m:Nat,OC Tryz.prog 109 [.o (.ptr q g 0)] [(q,(m,some (rfM b r1)))] [] (m=g+1) (.p (.k .u64 (n:Int))) [(q,(m,some (rfM b r2)))]:=fun q g m=>⟨fun h=>by obtain rfl:=h;have:=(rfnum_o g b r1 o1).one q;rwa [h2] at this⟩
   clear h2 o1
   as_aux_lemma=>
    repeat' (first|refine jx24 ?_|refine jy0 ?_ ?_|exact spF|refine spQ fun hq hq'=>?_|refine spN fun hn=>?_|fail)
    exact ⟨(⟨k,0,[],(0,0,0),n,zeroM⟩,zMC,r2),⟨me_zero,zeroM_in,nil_ok,Nat.zero_le _,o2,eb⟩,by exact knA,by exact knA⟩
  have d4:decide (k=4)=false:=decide_eq_false q4
  by_cases q5:k=5
  ·have d5:decide (k=5)=true:=decide_eq_true q5
   have tf:=text_fit (most:=16777216) (by decide) r1 ⟨o1.byte,o1.rd⟩
   obtain ⟨s,r2,h2⟩:=pr_ex (textS 16777216 r1)
   have o2:RfOk b r2:=by have:=(par_text 16777216).rf o1;rwa [h2] at this
   rw [h2] at tf
   dsimp only at tf
   obtain ⟨ks,ls⟩:=tf
   have cM:=refRead26_w s ks (by omega)
   have mi:=readM_in ks (show s.length≤1000000000 by omega)
   have eb:bodyS k r1=(⟨k,0,[],(0,0,0),0,(readM s).1⟩,mustS (decide ((readM s).2=0)) r2):=by
    unfold bodyS
    rw [if_neg (by omega),if_neg (by omega),if_neg q4,if_pos q5]
    simp only [bindS,h2,pureS,mustU]
   generalize (readM s).1=m at *
   generalize decide ((readM s).2=0)=e at *
   have o3:RfOk b (mustS e r2):=(par_must e).rf o2
   have hm40:=mL_len mi.d32
   have me:=me_self mi.d32
   haveI j2:∀ q g m:Nat,OC Tryz.prog 107 [.o (.ptr q g 0),.p (.i 16777216)] [(q,(m,some (rfM b r1)))] [] (m=g+1) (.p (.sl 1 (s.map bR) false)) [(q,(m,some (rfM b r2)))]:=fun q g m=>⟨fun h=>by obtain rfl:=h;have:=(rftext_o g b r1 16777216 (by decide) (by decide) o1).one q;rwa [h2] at this⟩
   haveI j4:∀ q g m:Nat,OC Tryz.prog 110 [.o (.ptr q g 0),.p (.b e)] [(q,(m,some (rfM b r2)))] [] (m=g+1) (.tup []) [(q,(m,some (rfM b (mustS e r2))))]:=fun q g m=>⟨fun h=>by obtain rfl:=h;exact (rmust_o g b r2 e).one q⟩
   haveI j3:PC Tryz.prog 14 [.p (.sl 1 (s.map bR) false)] True (.tup [.agg (mL m),.one (.p (.b e))]):=⟨fun _=>cM⟩
   clear h2 o1 cM
   revert me hm40
   generalize mL m=M at j3 ⊢
   intro hm40 me
   as_aux_lemma=>
    repeat' (first|refine jx24 ?_|refine jy0 ?_ ?_|exact spF|refine spQ fun hq hq'=>?_|refine spN fun hn=>?_|fail)
    exact ⟨(⟨k,0,[],(0,0,0),0,m⟩,M,_),⟨me,mi,nil_ok,Nat.zero_le _,o3,eb⟩,by exact knA,by exact knA⟩
  have d5:decide (k=5)=false:=decide_eq_false q5
  have eb:bodyS k r1=(⟨k,0,[],(0,0,0),0,zeroM⟩,r1):=by
   unfold bodyS
   rw [if_neg (fun q=>q1 (.inl q)),if_neg (fun q=>q1 (.inr q)),if_neg q4,if_neg q5]
   rfl
  as_aux_lemma=>
   repeat' (first|refine jx24 ?_|refine jy0 ?_ ?_|exact spF|refine spQ fun hq hq'=>?_|refine spN fun hn=>?_|fail)
   exact ⟨(⟨k,0,[],(0,0,0),0,zeroM⟩,zMC,r1),⟨me_zero,zeroM_in,nil_ok,Nat.zero_le _,o1,eb⟩,by exact knA,by exact knA⟩
 rintro ⟨X,M,q⟩ ν ⟨me,mi,kx,kl,oq,eb⟩
 dsimp only at me mi kx kl oq eb ⊢
 clear j1 o1
 obtain ⟨pM,hM,hF,hE⟩:=me
 have hri:readI b=if endS q≠0∨rightI X=false then (zeroI,3) else (X,0):=readI_of (by rw [hin,eb])
 rw [hri]
 have cR:=(refRight30_w X mi kx (by omega)).ent (.cons (hE _) .nil)
 have cE:=rfend_o
 haveI jE:∀ p g m:Nat,OC Tryz.prog 111 [.o (.ptr p g 0)] [(p,(m,some (rfM b q)))] [] (m=g+1) (.p (.i (endS q))) [(p,(m,some (rfM b q)))]:=fun p g m=>⟨fun h=>by obtain rfl:=h;exact (rfend_o g b q oq).one p⟩
 generalize rightI X=R at cR ⊢
 haveI j3:PC Tryz.prog 40 [.a (iC X M)] True (.p (.b R)):=⟨fun _=>cR⟩
 clear cR hri oq eb hin cE
 by_cases hz:endS q=0
 ·have d2:decide (endS q≠0)=false:=decide_eq_false fun h=>h hz
  cases R with
  | true=>
   have t0:(!true)=false:=rfl
   rw [if_neg (by intro h;rcases h with h|h;exact h hz;cases h)]
   as_aux_lemma=>
    repeat' (first|refine jx24 ?_|refine jy0 ?_ ?_|exact spF|refine spQ fun hq hq'=>?_|refine spN fun hn=>?_|fail)
    exact rc2 rfl rfl rfl rfl rfl (il47 hM) (finI (hF _ _)) rfl finS_p rfl
  | false=>
   have t0:(!false)=true:=rfl
   rw [if_pos (.inr rfl)]
   as_aux_lemma=>
    repeat' (first|refine jx24 ?_|refine jy0 ?_ ?_|exact spF|refine spQ fun hq hq'=>?_|refine spN fun hn=>?_|fail)
    exact rc2 rfl rfl rfl rfl rfl (il47 hz40) (finI fin_zM) rfl finS_p rfl
 ·have d2:decide (endS q≠0)=true:=decide_eq_true hz
  rw [if_pos (.inl hz)]
  as_aux_lemma=>
   repeat' (first|refine jx24 ?_|refine jy0 ?_ ?_|exact spF|refine spQ fun hq hq'=>?_|refine spN fun hn=>?_|fail)
   exact rc2 rfl rfl rfl rfl rfl (il47 hz40) (finI fin_zM) rfl finS_p rfl
end Go.Proofs.YtcbhmngagibhmaaGreat.Wi
