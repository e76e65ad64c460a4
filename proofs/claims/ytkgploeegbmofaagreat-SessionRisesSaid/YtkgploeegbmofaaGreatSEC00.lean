/- sessions, the law SessionRises: whatever a session hears, it goes on by one round, or is over -/
import Derived.Test.YtkgploeegbmofaaGreatSEA29
import Derived.Test.YtkgploeegbmofaaGreatSEA36
import Derived.Test.YtkgploeegbmofaaGreatSEA38
import Derived.Test.YtkgploeegbmofaaGreatSEA41
namespace Go.Proofs.YtkgploeegbmofaaGreat.Wi
open Go Go.RowKit Go.Aw Go.Aw.Sha Go.Aw.Cart Go.Aw.Tree Go.Aw.Clash Go.Proofs.YtkgploeegbmofaaGreat.Ca Go.Proofs.YtkgploeegbmofaaGreat.Rg
set_option linter.unusedVariables false
set_option linter.unusedSimpArgs false
set_option maxRecDepth 8000
set_option maxHeartbeats 4000000
attribute [local irreducible] sum
theorem linG {l:List Kd} (hg:greatL l=false) (hin:∀ k∈l,KdI k):LIn l∧l.length≤30∧∀ k∈l,k.2.2.length≤1000000:=by
 obtain ⟨h1,h2⟩:=greatL_no hg
 exact ⟨⟨by omega,hin,fun k hk=>by have:=(h2 k hk).2;omega⟩,by omega,fun k hk=>by have:=(h2 k hk).2;omega⟩
theorem hearAll_cases (T:List Nat) (s:Ses) (l:List Kd) (m:Msg) (now:Int):(∃ e:Int,e≠0∧hearAll T s l m now=(zeroS,[],e))∨(∃ t,hearAll T s l m now=(t,m.kds,0)∧rightS s=true∧keysF l=true∧rightM m=true∧(0≤now∧now≤1099511627776)∧hearF T s m now=(t,true)):=by
 unfold hearAll
 by_cases h1:rightS s=true∧keysF l=true∧rightM m=true
 ·rw [if_pos h1]
  by_cases h2:Bo.win now 0 1099511627776=true
  ·rw [if_pos h2]
   by_cases h3:s.round≠0∧mineF s m=true
   ·rw [if_pos h3]
    obtain ⟨⟨t,b⟩,hR⟩:∃ R,hearF T s m now=R:=⟨_,rfl⟩
    rw [hR]
    cases b with
    | true=>rw [if_pos rfl];exact .inr ⟨t,rfl,h1.1,h1.2.1,h1.2.2,of_decide_eq_true h2,rfl⟩
    | false=>rw [if_neg (show ¬ (false=true) by decide)];exact .inl ⟨7,by decide,rfl⟩
   ·rw [if_neg h3];exact .inl ⟨7,by decide,rfl⟩
  ·rw [if_neg h2];exact .inl ⟨1,by decide,rfl⟩
 ·rw [if_neg h1];exact .inl ⟨3,by decide,rfl⟩
namespace SB
theorem lopC {C:Ctx} {o:Oper} {σ:St} {e:Eff} {ro:Nat→Bool} (h:LOp C o σ e ro:=by
  first|(apply lop_build0;(focus rfl);(focus exact inferInstance);(focus exact inferInstance);(focus decide);(focus first|exact sn2 rfl|exact sn3 rfl|exact sn4 rfl|exact sn1 rfl|exact sn5 rfl|exact sn6 rfl|exact sn7 rfl|exact sn8 rfl|exact sn9 rfl|exact sn10 rfl|exact sn11 rfl|exact sn12 rfl|rfl);(focus rfl))|exact S6.lopC|exact S1.lopC|fail):LOp C o σ e ro:=h
section steps
variable {C:Ctx} {ops:Array Oper} {o:Oper} {rest:List Oper} {K:St→Prop} {σ:St} {e:Eff} {ro:Nat→Bool} {W:List (Nat × Nat)} {i:Nat}
theorem rnC {d:Nat} (hg:Guard ops σ o true:=by first|exact gd_n rfl rfl|exact gd_t rfl rfl rfl rfl|exact gd_t rfl rfl rfl (by assumption)) (hd:o.dst=some d:=by rfl) (h:LOp C o σ e ro:=by exact lopC) (hk:RunN C ops rest K (e.app (some d) σ)):RunN C ops (o::rest) K σ:=rn_any hg hd h hk
end steps
end SB
open SB
theorem sessionRises_g (s:Ses) (l:List Kd) (ex:Bool) (m:Msg) (now:Int) (hs:s.pls.length≤9223372036854775807) (hll:l.length≤9223372036854775807) (hk:∀ k∈l,KdI k) (hm:MGo m) (ha:PCall Tryz.prog 21 [] (.p (.b true))):PCall Tryz.prog 5 [sV s,.p (.sl 10 (l.map kR) ex),mV m,.p (.i now)] (.p (.b true)):=by
 refine pcall_of Tryz.func5 rfl (fun w0 F S0 M0=>?_)
 haveI i0:PC Tryz.prog 21 [] True (.p (.b true)):=⟨fun _=>ha⟩
 have hm32:=hm.d32
 have h32:(m.dig.map bcD).length=32:=by rw [List.length_map];exact hm32
 by_cases h1:60 < (s.pls.length:Int)
 ·have d1:decide (60 < (s.pls.length:Int))=true:=decide_eq_true h1
  as_aux_lemma=>
   repeat' (first|refine jx22 ?_|refine jy0 ?_ ?_|exact spF|refine spQ fun hq hq'=>?_|refine spN fun hn=>?_|fail)
   exact rt1 rfl rfl finS_p rfl
 have d1:decide (60 < (s.pls.length:Int))=false:=decide_eq_false h1
 have c1:=pgreat_w l ex hll
 cases hg:greatL l with
 | true=>
  rw [hg] at c1
  haveI i1:PC Tryz.prog 23 [.p (.sl 10 (l.map kR) ex)] True (.p (.b true)):=⟨fun _=>c1⟩
  clear c1
  as_aux_lemma=>
   repeat' (first|refine jx22 ?_|refine jy0 ?_ ?_|exact spF|refine spQ fun hq hq'=>?_|refine spN fun hn=>?_|fail)
   exact rt1 rfl rfl finS_p rfl
 | false=>
 rw [hg] at c1
 haveI i1:PC Tryz.prog 23 [.p (.sl 10 (l.map kR) ex)] True (.p (.b false)):=⟨fun _=>c1⟩
 have c2:=great26_w m hm
 cases hgm:greatM m with
 | true=>
  rw [hgm] at c2
  haveI i2:PC Tryz.prog 24 [mV m] True (.p (.b true)):=⟨fun _=>c2⟩
  clear c1 c2
  as_aux_lemma=>
   repeat' (first|refine jx22 ?_|refine jy0 ?_ ?_|exact spF|refine spQ fun hq hq'=>?_|refine spN fun hn=>?_|fail)
   exact rt1 rfl rfl finS_p rfl
 | false=>
 rw [hgm] at c2
 haveI i2:PC Tryz.prog 24 [mV m] True (.p (.b false)):=⟨fun _=>c2⟩
 obtain ⟨hl,h30,hf⟩:=linG hg hk
 obtain ⟨hmi,hmp,hmd,hmg⟩:=min_of hm hgm
 have hmk:=(greatL_no hmg).1
 have c3:=hearAll_w s l ex m now hs hl hmi (by omega) (fun r k=>kids_dgs r k)
 rcases hearAll_cases (ofF (txsF l s.part)) s l m now with ⟨e,he,hR⟩ | ⟨t,hR,hsr,hlr,hmr,hn,hF⟩
 ·rw [hR] at c3
  dsimp only at c3
  have de:decide (e≠0)=true:=decide_eq_true he
  have c4:PCall Tryz.prog 26 [sV zeroS,.a [.p (.i 0),.p (.i 0),.p (.i 0),.p (.i 0),.p (.i 0),.p (.v (.slice none 0 0)),.p (.i 0),.p (.i 0),.p (.i 0),.p (.i 0),.p (.i 0)]] (.p (.b true)):=by
   have h:=ssame_w zeroS zeroS (by decide)
   rw [show sameS zeroS zeroS=true by decide] at h
   exact h.ent (.cons .refl (.cons (ent_s (s:=zeroS) PE.nil) .nil))
  have dz:decide (((([]:List Kd).length:Nat):Int)=0)=true:=by decide
  obtain ⟨Z,hZ⟩:∃ Z,Z=zeroS:=⟨_,rfl⟩
  obtain ⟨L,hL⟩:∃ L:List Kd,L=[]:=⟨_,rfl⟩
  rw [← hZ] at c3 c4
  rw [← hL] at c3 dz
  haveI i3:PC Tryz.prog 25 [sV s,.p (.sl 10 (l.map kR) ex),mV m,.p (.i now)] True (.tup [.agg (sL Z),.one (.p (.sl 10 (L.map kR) false)),.one (.p (.i e))]):=⟨fun _=>c3⟩
  haveI i4:PC Tryz.prog 26 [sV Z,.a [.p (.i 0),.p (.i 0),.p (.i 0),.p (.i 0),.p (.i 0),.p (.v (.slice none 0 0)),.p (.i 0),.p (.i 0),.p (.i 0),.p (.i 0),.p (.i 0)]] True (.p (.b true)):=⟨fun _=>c4⟩
  clear c1 c2 c3 c4 hZ hL hR hl hmi hm hf hk
  as_aux_lemma=>
   repeat' (first|refine jx22 ?_|refine jy0 ?_ ?_|exact spF|refine spQ fun hq hq'=>?_|refine spN fun hn=>?_|fail)
   exact rt1 rfl rfl finS_p rfl
 ·rw [hR] at c3
  dsimp only at c3
  have hh:(hearF (ofF (txsF l s.part)) s m now).2=true:=by rw [hF]
  have facts:=hear_facts hsr hn hh
  rw [hF] at facts
  dsimp only at facts
  obtain ⟨⟨e1,e2,e3,e4⟩,er,etr,ek⟩:=facts
  have hrr:=(right_parts hsr).2.2.2.2.2.1
  have c4:=sright_w t (by have:=pls_few etr;omega)
  rw [etr] at c4
  have c5:=say_w t l ex (by have:=pls_few etr;omega) hl hf (fun _=>by have:=pls_few etr;omega)
  obtain ⟨M,f,hS,hM32,hfz⟩:∃ (M:Msg) (f:Int),sayF (ofF (txsF l t.part)) t l=(M,f)∧M.dig.length=32∧decide (f=0)=decide (0 < t.round):=by
   have h0:=(right_parts etr).2.2.2.2.2.1
   unfold sayF
   rw [if_pos ⟨etr,hlr⟩]
   by_cases r0:t.round=0
   ·rw [if_pos r0]
    exact ⟨zM,7,rfl,rfl,by rw [decide_eq_false (show ¬ (7:Int)=0 by decide),decide_eq_false (show ¬ 0 < t.round by omega)]⟩
   ·rw [if_neg r0]
    refine ⟨_,0,rfl,?_,by rw [decide_eq_true rfl,decide_eq_true (show 0 < t.round by omega)]⟩
    unfold saidF
    dsimp only
    split
    ·exact row_len (ofF_672' _) (by omega)
    ·rfl
  rw [hS] at c5
  dsimp only at c5
  have hM:(M.dig.map bcD).length=32:=by rw [List.length_map];exact hM32
  have hkd:m.kds=[]∨(s.round=3∧t.round=0):=by
   rcases ek with q|q|q
   ·exact .inl (own_kds hmr (.inl q))
   ·exact .inl (own_kds hmr (.inr q))
   ·exact .inr q.2
  haveI i3:PC Tryz.prog 25 [sV s,.p (.sl 10 (l.map kR) ex),mV m,.p (.i now)] True (.tup [.agg (sL t),.one (.p (.sl 10 (m.kds.map kR) false)),.one (.p (.i 0))]):=⟨fun _=>c3⟩
  haveI i4:PC Tryz.prog 20 [sV t] True (.p (.b true)):=⟨fun _=>c4⟩
  haveI i5:PC Tryz.prog 27 [sV t,.p (.sl 10 (l.map kR) ex)] True (.tup [.agg (mL M),.one (.p (.i f))]):=⟨fun _=>c5⟩
  have g1:decide (t.id≠s.id)=false:=decide_eq_false fun q=>q e1
  have g2:decide (t.self≠s.self)=false:=decide_eq_false fun q=>q e2
  have g3:decide (t.peer≠s.peer)=false:=decide_eq_false fun q=>q e3
  have g4:decide (t.part≠s.part)=false:=decide_eq_false fun q=>q e4
  have gl:decide ((m.kds.length:Int)=(m.kds.length:Int))=true:=decide_eq_true rfl
  have g5:decide (t.round≠0)=false∨(decide (t.round≠0)=true∧decide (t.round≠s.round+1)=false):=by
   by_cases r0:t.round=0
   ·exact .inl (decide_eq_false fun q=>q r0)
   ·exact .inr ⟨decide_eq_true r0,decide_eq_false fun q=>q (er.resolve_left r0)⟩
  have g6:decide ((m.kds.length:Int)=0)=true∨(decide ((m.kds.length:Int)=0)=false∧decide (s.round=3)=true∧decide (t.round=0)=true):=by
   rcases hkd with q | ⟨q1,q2⟩
   ·exact .inl (decide_eq_true (by rw [q];rfl))
   ·by_cases q:m.kds=[]
    ·exact .inl (decide_eq_true (by rw [q];rfl))
    ·exact .inr ⟨decide_eq_false (fun z=>q (List.eq_nil_of_length_eq_zero (by omega))),decide_eq_true q1,decide_eq_true q2⟩
  have g7:(decide (f=0) == decide (0 < t.round))=true:=by rw [hfz];exact beq_self_eq_true _
  clear c1 c2 c3 c4 c5 hR hF hh hS hfz hkd ek er hl hmi hm hf hk e1 e2 e3 e4 hM32
  repeat' (first|refine jx22 ?_|fail)
  rcases g5 with g5 | ⟨g5,g5'⟩<;>rcases g6 with g6 | ⟨g6,g6',g6''⟩
  all_goals
   as_aux_lemma=>
    repeat' (first|refine jx22 ?_|refine jy0 ?_ ?_|exact spF|refine spQ fun hq hq'=>?_|refine spN fun hn=>?_|fail)
    exact rt1 rfl rfl finS_p (rb gl.symm)
end Go.Proofs.YtkgploeegbmofaaGreat.Wi
