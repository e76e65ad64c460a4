/- sessions: whose message; where a session stands; a session behind a message -/
import Derived.Test.YtkgploeegbmofaaGreatSEA28
import Derived.Test.YtkgploeegbmofaaGreatSEA26
import Derived.Test.YtkgploeegbmofaaGreatSEA34
namespace Go.Proofs.YtkgploeegbmofaaGreat.Wi
open Go Go.RowKit Go.Aw Go.Aw.Sha Go.Aw.Cart Go.Aw.Tree Go.Aw.Clash Go.Proofs.YtkgploeegbmofaaGreat.Ca Go.Proofs.YtkgploeegbmofaaGreat.Rg
set_option linter.unusedVariables false
set_option linter.unusedSimpArgs false
set_option maxRecDepth 8000
set_option maxHeartbeats 4000000
attribute [local irreducible] sum
def mineF (s:Ses) (m:Msg):Bool:=decide (m.frm=s.peer)&&(decide (m.to=s.self)&&(decide (m.ses=s.id)&&decide (m.part=s.part)))
def atS (s:Ses):List Int:=if s.round=1 then [0] else s.pls
def nxS (T:List Nat) (m:Msg):List Int:=unTo T (kidsL m.pls) m.dgs (kidsL m.pls).length
def hearF (T:List Nat) (s:Ses) (m:Msg) (now:Int):Ses × Bool:=
 if s.round=1∧m.kind=4∨s.round=3∧m.kind=6∧m.pls=s.pls then (overS s,true)
 else if m.kind=5∧(s.round=1∨s.round=2)∧m.pls=atS s then (if nxS T m=[] then overS s else rndS s (s.round+1) (nxS T m) now,true)
 else (zeroS,false)
namespace S5
theorem lopC {C:Ctx} {o:Oper} {σ:St} {e:Eff} {ro:Nat→Bool} (h:LOp C o σ e ro:=by
  first|(apply lop_build0;(focus rfl);(focus exact inferInstance);(focus exact inferInstance);(focus decide);(focus first|exact sn2 rfl|exact sn3 rfl|exact sn4 rfl|exact sn1 rfl|exact sn5 rfl|exact sn6 rfl|exact sn7 rfl|exact sn8 rfl|exact sn9 rfl|exact sn10 rfl|exact sn11 rfl|exact sn12 rfl|rfl);(focus rfl))|exact T4.lopC|(apply gLoad;(focus rfl);(apply lop_ld4;(focus rfl);(focus exact inferInstance);(focus rfl);(focus rfl);(focus rfl);(focus rfl);(focus rfl);(focus rfl)))|fail):LOp C o σ e ro:=h
section steps
variable {C:Ctx} {ops:Array Oper} {o:Oper} {rest:List Oper} {K:St→Prop} {σ:St} {e:Eff} {ro:Nat→Bool} {W:List (Nat × Nat)} {i:Nat}
theorem rnC {d:Nat} (hg:Guard ops σ o true:=by first|exact gd_n rfl rfl|exact gd_t rfl rfl rfl rfl|exact gd_t rfl rfl rfl (by assumption)) (hd:o.dst=some d:=by rfl) (h:LOp C o σ e ro:=by exact lopC) (hk:RunN C ops rest K (e.app (some d) σ)):RunN C ops (o::rest) K σ:=rn_any hg hd h hk
theorem rkC {d:Nat} (hg:Guard ops σ o true:=by first|exact gd_n rfl rfl|exact gd_t rfl rfl rfl rfl|exact gd_t rfl rfl rfl (by assumption)) (hd':o.dst=some d:=by rfl) (hd:dOk C o.dst=true:=by rfl) (h:LOp C o σ e ro:=by exact lopC) (hro:∀ x,ro x=true→okObj ops W i x=true:=by first|exact fun _=>ro_none|exact ro_one rfl|exact ro_k1 rfl|exact ro_one (by kernel_rfl)|exact ro_k1 (by kernel_rfl)|exact ro_kIn (by decide)) (hob:∀ p∈e.obj,(i,p.1)∈W:=by first|exact ob_none|exact ob_one (by decide)|decide) (hk:RunK C ops W (i+1) rest K (e.app (some d) σ)):RunK C ops W i (o::rest) K σ:=rk_wr hg hd' hd h hro hob hk
end steps
end S5
open S5
theorem mine_w (s:Ses) (m:Msg) (hm:m.dig.length=32):PCall Tryz.prog 61 [sV s,mV m] (.p (.b (mineF s m))):=by
 refine pcall_of Tryz.func61 rfl (fun w0 F S0 M0=>?_)
 have h32:(m.dig.map bcD).length=32:=by rw [List.length_map];exact hm
 unfold mineF
 cases d1:decide (m.frm=s.peer) with
 | false=>
  rw [Bool.false_and]
  as_aux_lemma=>
   repeat' (first|refine jx20 ?_|refine jy0 ?_ ?_|exact spF|refine spQ fun hq hq'=>?_|refine spN fun hn=>?_|fail)
   exact rt1 rfl rfl finS_p rfl
 | true=>
 rw [Bool.true_and]
 cases d2:decide (m.to=s.self) with
 | false=>
  rw [Bool.false_and]
  as_aux_lemma=>
   repeat' (first|refine jx20 ?_|refine jy0 ?_ ?_|exact spF|refine spQ fun hq hq'=>?_|refine spN fun hn=>?_|fail)
   exact rt1 rfl rfl finS_p rfl
 | true=>
 rw [Bool.true_and]
 cases d3:decide (m.ses=s.id) with
 | false=>
  rw [Bool.false_and]
  as_aux_lemma=>
   repeat' (first|refine jx20 ?_|refine jy0 ?_ ?_|exact spF|refine spQ fun hq hq'=>?_|refine spN fun hn=>?_|fail)
   exact rt1 rfl rfl finS_p rfl
 | true=>
 rw [Bool.true_and]
 as_aux_lemma=>
  repeat' (first|refine jx20 ?_|refine jy0 ?_ ?_|exact spF|refine spQ fun hq hq'=>?_|refine spN fun hn=>?_|fail)
  exact rt1 rfl rfl finS_p rfl
theorem at_w (s:Ses):PCall Tryz.prog 100 [sV s] (.p (.sl 1 ((atS s).map iRw) (decide (s.round=1)))):=by
 refine pcall_of Tryz.func100 rfl (fun w0 F S0 M0=>?_)
 unfold atS
 by_cases h1:s.round=1
 ·have d1:decide (s.round=1)=true:=decide_eq_true h1
  rw [if_pos h1,d1]
  as_aux_lemma=>
   repeat' (first|refine jx20 ?_|refine jy0 ?_ ?_|exact spF|refine spQ fun hq hq'=>?_|refine spN fun hn=>?_|fail)
   exact rt1 rfl rfl finS_p rfl
 ·have d1:decide (s.round=1)=false:=decide_eq_false h1
  rw [if_neg h1,d1]
  as_aux_lemma=>
   repeat' (first|refine jx20 ?_|refine jy0 ?_ ?_|exact spF|refine spQ fun hq hq'=>?_|refine spN fun hn=>?_|fail)
   exact rt1 rfl rfl finS_p rfl
theorem hear_end (s:Ses) (l:List Kd) (ex:Bool) (m:Msg) (now:Int) (hm:m.dig.length=32) (hp:m.pls.length≤1000000000) (h:s.round=1∧m.kind=4∨s.round=3∧m.kind=6∧m.pls=s.pls):PCall Tryz.prog 62 [sV s,.p (.sl 10 (l.map kR) ex),mV m,.p (.i now)] (.tup [.agg (sL (overS s)),.one (.p (.b true))]):=by
 refine pcall_of Tryz.func62 rfl (fun w0 F S0 M0=>?_)
 have h32:(m.dig.map bcD).length=32:=by rw [List.length_map];exact hm
 rcases h with ⟨h1,h2⟩ | ⟨h1,h2,h3⟩
 ·have d1:decide (s.round=1)=true:=decide_eq_true h1
  have d2:decide (m.kind=4)=true:=decide_eq_true h2
  as_aux_lemma=>
   repeat' (first|refine jx20 ?_|refine jy0 ?_ ?_|exact spF|refine spQ fun hq hq'=>?_|refine spN fun hn=>?_|fail)
   exact rc2 rfl rfl rfl rfl rfl rfl (finSe (s:=overS s) .p) rfl finS_p rfl
 ·have d0:decide (s.round=1)=false:=decide_eq_false (by omega)
  have d1:decide (s.round=3)=true:=decide_eq_true h1
  have d2:decide (m.kind=6)=true:=decide_eq_true h2
  have c1:=equalN_w m.pls s.pls false false hp
  rw [decide_eq_true h3] at c1
  haveI i1:PC Tryz.prog 64 [.p (.sl 1 (m.pls.map iRw) false),.p (.sl 1 (s.pls.map iRw) false)] True (.p (.b true)):=⟨fun _=>c1⟩
  clear c1
  as_aux_lemma=>
   repeat' (first|refine jx20 ?_|refine jy0 ?_ ?_|exact spF|refine spQ fun hq hq'=>?_|refine spN fun hn=>?_|fail)
   exact rc2 rfl rfl rfl rfl rfl rfl (finSe (s:=overS s) .p) rfl finS_p rfl
theorem hear_no (s:Ses) (l:List Kd) (ex:Bool) (m:Msg) (now:Int) (hm:m.dig.length=32) (hp:m.pls.length≤1000000000) (h:¬ (s.round=1∧m.kind=4∨s.round=3∧m.kind=6∧m.pls=s.pls)) (k:¬ (m.kind=5∧(s.round=1∨s.round=2)∧m.pls=atS s)):PCall Tryz.prog 62 [sV s,.p (.sl 10 (l.map kR) ex),mV m,.p (.i now)] (.tup [.agg (sL zeroS),.one (.p (.b false))]):=by
 refine pcall_of Tryz.func62 rfl (fun w0 F S0 M0=>?_)
 have h32:(m.dig.map bcD).length=32:=by rw [List.length_map];exact hm
 have c1:=equalN_w m.pls s.pls false false hp
 have c2:=at_w s
 haveI i2:PC Tryz.prog 100 [sV s] True (.p (.sl 1 ((atS s).map iRw) (decide (s.round=1)))):=⟨fun _=>c2⟩
 have c3:=equalN_w m.pls (atS s) false (decide (s.round=1)) hp
 by_cases h5:m.kind=5
 ·have d5:decide (m.kind≠5)=false:=decide_eq_false fun q=>q h5
  have d4:decide (m.kind=4)=false:=decide_eq_false (by omega)
  have d6:decide (m.kind=6)=false:=decide_eq_false (by omega)
  by_cases r:s.round=1∨s.round=2
  ·have hn:m.pls≠atS s:=fun q=>k ⟨h5,r,q⟩
   rw [decide_eq_false hn] at c3
   rcases r with r|r
   ·have e1:decide (s.round=1)=true:=decide_eq_true r
    have e2:decide (s.round≠1)=false:=decide_eq_false fun q=>q r
    have e3:decide (s.round=3)=false:=decide_eq_false (by omega)
    rw [e1] at i2 c3
    haveI i3:PC Tryz.prog 64 [.p (.sl 1 (m.pls.map iRw) false),.p (.sl 1 ((atS s).map iRw) true)] True (.p (.b false)):=⟨fun _=>c3⟩
    clear c1 c2 c3
    as_aux_lemma=>
     repeat' (first|refine jx22 ?_|refine jy0 ?_ ?_|exact spF|refine spQ fun hq hq'=>?_|refine spN fun hn=>?_|fail)
     exact rc2 rfl rfl rfl rfl rfl rfl (finSe (s:=zeroS) .nil) rfl finS_p rfl
   ·have e1:decide (s.round=1)=false:=decide_eq_false (by omega)
    have e2:decide (s.round≠1)=true:=decide_eq_true (by omega)
    have e3:decide (s.round=3)=false:=decide_eq_false (by omega)
    have e4:decide (s.round≠2)=false:=decide_eq_false fun q=>q r
    rw [e1] at i2 c3
    haveI i3:PC Tryz.prog 64 [.p (.sl 1 (m.pls.map iRw) false),.p (.sl 1 ((atS s).map iRw) false)] True (.p (.b false)):=⟨fun _=>c3⟩
    clear c1 c2 c3
    as_aux_lemma=>
     repeat' (first|refine jx22 ?_|refine jy0 ?_ ?_|exact spF|refine spQ fun hq hq'=>?_|refine spN fun hn=>?_|fail)
     exact rc2 rfl rfl rfl rfl rfl rfl (finSe (s:=zeroS) .nil) rfl finS_p rfl
  ·have e1:decide (s.round=1)=false:=decide_eq_false (by omega)
   have e2:decide (s.round≠1)=true:=decide_eq_true (by omega)
   have e4:decide (s.round≠2)=true:=decide_eq_true (by omega)
   clear c1 c2 c3 i2
   cases e3:decide (s.round=3)
   all_goals
    as_aux_lemma=>
     repeat' (first|refine jx22 ?_|refine jy0 ?_ ?_|exact spF|refine spQ fun hq hq'=>?_|refine spN fun hn=>?_|fail)
     exact rc2 rfl rfl rfl rfl rfl rfl (finSe (s:=zeroS) .nil) rfl finS_p rfl
 ·have d5:decide (m.kind≠5)=true:=decide_eq_true h5
  by_cases r1:s.round=1
  ·have e1:decide (s.round=1)=true:=decide_eq_true r1
   have e3:decide (s.round=3)=false:=decide_eq_false (by omega)
   have d4:decide (m.kind=4)=false:=decide_eq_false fun q=>h (.inl ⟨r1,q⟩)
   clear c1 c2 c3 i2
   as_aux_lemma=>
    repeat' (first|refine jx22 ?_|refine jy0 ?_ ?_|exact spF|refine spQ fun hq hq'=>?_|refine spN fun hn=>?_|fail)
    exact rc2 rfl rfl rfl rfl rfl rfl (finSe (s:=zeroS) .nil) rfl finS_p rfl
  have e1:decide (s.round=1)=false:=decide_eq_false r1
  by_cases r3:s.round=3
  ·have e3:decide (s.round=3)=true:=decide_eq_true r3
   by_cases k6:m.kind=6
   ·have d6:decide (m.kind=6)=true:=decide_eq_true k6
    rw [decide_eq_false (fun q=>h (.inr ⟨r3,k6,q⟩))] at c1
    haveI i1:PC Tryz.prog 64 [.p (.sl 1 (m.pls.map iRw) false),.p (.sl 1 (s.pls.map iRw) false)] True (.p (.b false)):=⟨fun _=>c1⟩
    clear c1 c2 c3 i2
    as_aux_lemma=>
     repeat' (first|refine jx22 ?_|refine jy0 ?_ ?_|exact spF|refine spQ fun hq hq'=>?_|refine spN fun hn=>?_|fail)
     exact rc2 rfl rfl rfl rfl rfl rfl (finSe (s:=zeroS) .nil) rfl finS_p rfl
   ·have d6:decide (m.kind=6)=false:=decide_eq_false k6
    clear c1 c2 c3 i2
    as_aux_lemma=>
     repeat' (first|refine jx22 ?_|refine jy0 ?_ ?_|exact spF|refine spQ fun hq hq'=>?_|refine spN fun hn=>?_|fail)
     exact rc2 rfl rfl rfl rfl rfl rfl (finSe (s:=zeroS) .nil) rfl finS_p rfl
  ·have e3:decide (s.round=3)=false:=decide_eq_false r3
   clear c1 c2 c3 i2
   as_aux_lemma=>
    repeat' (first|refine jx22 ?_|refine jy0 ?_ ?_|exact spF|refine spQ fun hq hq'=>?_|refine spN fun hn=>?_|fail)
    exact rc2 rfl rfl rfl rfl rfl rfl (finSe (s:=zeroS) .nil) rfl finS_p rfl
theorem hear_go (s:Ses) (l:List Kd) (ex:Bool) (m:Msg) (now:Int) (hl:LIn l) (hw:Aw.Bo.rightB s.wb s.wc s.wm s.wt=true) (hn:0≤now∧now≤1099511627776) (hm:m.dig.length=32) (hp:m.pls.length≤100) (hd:m.dgs.length=(kidsL m.pls).length) (hd2:∀ d∈m.dgs,d.length=32) (h5:m.kind=5) (r:s.round=1∨s.round=2) (he:m.pls=atS s):PCall Tryz.prog 62 [sV s,.p (.sl 10 (l.map kR) ex),mV m,.p (.i now)] (.tup [.agg (sL (if nxS (ofF (txsF l s.part)) m=[] then overS s else rndS s (s.round+1) (nxS (ofF (txsF l s.part)) m) now)),.one (.p (.b true))]):=by
 refine pcall_of Tryz.func62 rfl (fun w0 F S0 M0=>?_)
 have h32:(m.dig.map bcD).length=32:=by rw [List.length_map];exact hm
 have c2:=at_w s
 have c3:=equalN_w m.pls (atS s) false (decide (s.round=1)) (by omega)
 have c4:=tpart_w l ex s.part hl
 have lT:=ofF_672' (txsF l s.part)
 have c5:=Cl.unlikeD_w (ofF (txsF l s.part)) m.pls m.dgs false false lT hp hd hd2
 have hxl:(nxS (ofF (txsF l s.part)) m).length≤400:=by
  have h1:=unTo_len (ofF (txsF l s.part)) (kidsL m.pls) m.dgs (kidsL m.pls).length
  have h2:=kidsL_le m.pls
  unfold nxS
  omega
 rw [decide_eq_true he] at c3
 unfold nxS at *
 generalize unTo (ofF (txsF l s.part)) (kidsL m.pls) m.dgs (kidsL m.pls).length=N at *
 generalize ofF (txsF l s.part)=T at *
 have c6:=round_w s (.sl 1 (N.map iRw) false) (s.round+1) N now hw hn (fun _ _=>.p)
 have d5:decide (m.kind≠5)=false:=decide_eq_false fun q=>q h5
 have d4:decide (m.kind=4)=false:=decide_eq_false (by omega)
 haveI i4:PC Tryz.prog 30 [.p (.sl 10 (l.map kR) ex),.p (.i s.part)] True (Tr.tv T):=⟨fun _=>c4⟩
 haveI i5:PC Tryz.prog 101 [Tr.tv T,.p (.sl 1 (m.pls.map iRw) false),.p (.sl 32 (m.dgs.map dRw) false)] True (.tup [.one (.p (.sl 1 (N.map iRw) false)),.one (.p (.i 0))]):=⟨fun _=>c5⟩
 haveI i6:PC Tryz.prog 67 [sV s,.p (.i (s.round+1)),.p (.sl 1 (N.map iRw) false),.p (.i now)] True (sV (rndS s (s.round+1) N now)):=⟨fun _=>c6⟩
 have e3:decide (s.round=3)=false:=decide_eq_false (by omega)
 obtain ⟨b,hb⟩:∃ b,decide (s.round=1)=b:=⟨_,rfl⟩
 have e:(b=true∧decide (s.round≠1)=false)∨(b=false∧decide (s.round≠1)=true∧decide (s.round≠2)=false):=by
  rcases r with r|r
  ·exact .inl ⟨hb.symm.trans (decide_eq_true r),decide_eq_false fun q=>q r⟩
  ·exact .inr ⟨hb.symm.trans (decide_eq_false (by omega)),decide_eq_true (by omega),decide_eq_false fun q=>q r⟩
 rw [hb] at c2 c3
 haveI i2:PC Tryz.prog 100 [sV s] True (.p (.sl 1 ((atS s).map iRw) b)):=⟨fun _=>c2⟩
 haveI i3:PC Tryz.prog 64 [.p (.sl 1 (m.pls.map iRw) false),.p (.sl 1 ((atS s).map iRw) b)] True (.p (.b true)):=⟨fun _=>c3⟩
 clear c2 c3 c4 c5 c6 he hd hd2 hl
 by_cases hN:N=[]
 ·have dN:decide ((N.length:Int)=0)=true:=decide_eq_true (by rw [hN];rfl)
  rw [if_pos hN]
  clear hN
  rcases e with ⟨rfl,e1⟩ | ⟨rfl,e1,e2⟩
  all_goals
   as_aux_lemma=>
    repeat' (first|refine jx22 ?_|refine jy0 ?_ ?_|exact spF|refine spQ fun hq hq'=>?_|refine spN fun hn=>?_|fail)
    exact rc2 rfl rfl rfl rfl rfl rfl (finSe (s:=overS s) .p) rfl finS_p rfl
 ·have dN:decide ((N.length:Int)=0)=false:=decide_eq_false fun q=>hN (List.eq_nil_of_length_eq_zero (by omega))
  rw [if_neg hN]
  clear hN
  rcases e with ⟨rfl,e1⟩ | ⟨rfl,e1,e2⟩
  all_goals
   as_aux_lemma=>
    repeat' (first|refine jx22 ?_|refine jy0 ?_ ?_|exact spF|refine spQ fun hq hq'=>?_|refine spN fun hn=>?_|fail)
    exact rc2 rfl rfl rfl rfl rfl rfl (finSe (s:=rndS s (s.round+1) N now) .p) rfl finS_p rfl
end Go.Proofs.YtkgploeegbmofaaGreat.Wi
