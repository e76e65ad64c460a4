/- sessions: a session behind a message, and the carts to be merged -/
import Derived.Test.YtkgploeegbmofaaGreatSEA35
import Derived.Test.YtkgploeegbmofaaGreatSEA37
namespace Go.Proofs.YtkgploeegbmofaaGreat.Wi
open Go Go.RowKit Go.Aw Go.Aw.Sha Go.Aw.Cart Go.Aw.Tree Go.Aw.Clash Go.Proofs.YtkgploeegbmofaaGreat.Ca Go.Proofs.YtkgploeegbmofaaGreat.Rg
set_option linter.unusedVariables false
set_option linter.unusedSimpArgs false
set_option maxRecDepth 8000
set_option maxHeartbeats 4000000
attribute [local irreducible] sum
section
open WE
theorem clnK_w (l:List Kd) (ex:Bool) (h:l.length≤1000000):PCall Tryz.prog 63 [.p (.sl 10 (l.map kR) ex)] (.p (.sl 10 (l.map kR) false)):=by
 refine pcall_of Tryz.func63 rfl (fun w0 F S0 M0=>?_)
 as_aux_lemma=>
  repeat' (first|refine jx5 ?_|refine jy0 ?_ ?_|exact spF|refine spQ fun hq hq'=>?_|refine spN fun hn=>?_|fail)
  ·have e:l=[]:=List.eq_nil_of_length_eq_zero (by have:=congrArg List.length hn;rwa [List.length_map,List.length_nil] at this)
   subst e
   exact rt1 rfl rfl (.one .nil) rfl
  ·exact rt1 rfl rfl (.one (finC_map (l:=([]:List Kd)++l) (f:=kR) rfl rfl rfl rfl)) rfl
end
theorem rc3s {P:Program} {fn:Func} {r:AV} {σ:St} {t t' t'' ty ty1 o g n sz by_:Nat} {k:TK} {cs ds:List AC} {u u' v v':SV} [hT:TI P ty k sz by_] (hf:fn.results.toList=[.cell t ty,.tmp t',.tmp t'']) (hv:σ.env t=.o (.ptr o g 0)) (hm:σ.mem o=(n,some (.box ty1 cs))) (hn:n=g+1) (hk:k.agg=true) (hl:cs.length=sz) (hs:All2 (FinC σ kNone) cs ds) (hv':σ.env t'=.s u) (hs':FinS σ kNone u u') (hv2:σ.env t''=.s v) (hs2:FinS σ kNone v v') (hr:r=.tup [.agg ds,u',v']):Ret P fn r .ret σ:=by
 subst hn
 exact Ret.of ⟨[.agg ds,u',v'],hr,by rw [hf];exact .cons (.cell hv hm hT hk hl hs) (.cons (.tmp hv' hs') (.cons (.tmp hv2 hs2) .nil))⟩
theorem hear_w (s:Ses) (l:List Kd) (ex:Bool) (m:Msg) (now:Int) (hl:LIn l) (hw:Aw.Bo.rightB s.wb s.wc s.wm s.wt=true) (hn:0≤now∧now≤1099511627776) (hm:MIn m) (hp:m.pls.length≤100) (hd:m.kind=5→m.dgs.length=(kidsL m.pls).length):PCall Tryz.prog 62 [sV s,.p (.sl 10 (l.map kR) ex),mV m,.p (.i now)] (.tup [.agg (sL (hearF (ofF (txsF l s.part)) s m now).1),.one (.p (.b (hearF (ofF (txsF l s.part)) s m now).2))]):=by
 unfold hearF
 by_cases h1:s.round=1∧m.kind=4∨s.round=3∧m.kind=6∧m.pls=s.pls
 ·rw [if_pos h1];exact hear_end s l ex m now hm.d32 hm.pl h1
 rw [if_neg h1]
 by_cases h2:m.kind=5∧(s.round=1∨s.round=2)∧m.pls=atS s
 ·rw [if_pos h2];exact hear_go s l ex m now hl hw hn hm.d32 hp (hd h2.1) (fun d k=>(hm.dg d k).1) h2.1 h2.2.1 h2.2.2
 ·rw [if_neg h2];exact hear_no s l ex m now hm.d32 hm.pl h1 h2
def hearAll (T:List Nat) (s:Ses) (l:List Kd) (m:Msg) (now:Int):Ses × List Kd × Int:=
 if rightS s=true∧keysF l=true∧rightM m=true then
  (if Bo.win now 0 1099511627776=true then
   (if s.round≠0∧mineF s m=true then (if (hearF T s m now).2=true then ((hearF T s m now).1,m.kds,0) else (zeroS,[],7)) else (zeroS,[],7))
  else (zeroS,[],1))
 else (zeroS,[],3)
open S5
theorem hearAll_w (s:Ses) (l:List Kd) (ex:Bool) (m:Msg) (now:Int) (hs:s.pls.length≤9223372036854775807) (hl:LIn l) (hm:MIn m) (hp:m.pls.length≤100) (hd:rightM m=true→m.kind=5→m.dgs.length=(kidsL m.pls).length):PCall Tryz.prog 25 [sV s,.p (.sl 10 (l.map kR) ex),mV m,.p (.i now)] (.tup [.agg (sL (hearAll (ofF (txsF l s.part)) s l m now).1),.one (.p (.sl 10 ((hearAll (ofF (txsF l s.part)) s l m now).2.1.map kR) false)),.one (.p (.i (hearAll (ofF (txsF l s.part)) s l m now).2.2))]):=by
 refine pcall_of Tryz.func25 rfl (fun w0 F S0 M0=>?_)
 have hm32:=hm.d32
 have h32:(m.dig.map bcD).length=32:=by rw [List.length_map];exact hm32
 have c1:=sright_w s hs
 have c2:=pright_w l ex (by have:=hl.len;omega) hl.kd hl.few
 have c3:=mright_w m hm
 have c4:=isNow_w now
 have c5:=mine_w s m hm32
 have c7:=clnK_w m.kds false (by have:=hm.kl;omega)
 unfold hearAll
 by_cases h1:rightS s=true
 case neg=>
  rw [Bool.not_eq_true] at h1
  rw [h1] at c1
  haveI i1:PC Tryz.prog 20 [sV s] True (.p (.b false)):=⟨fun _=>c1⟩
  rw [if_neg (by rw [h1];exact fun q=>by cases q.1)]
  clear c1 c2 c3 c4 c5 c7
  as_aux_lemma=>
   repeat' (first|refine jx20 ?_|refine jy0 ?_ ?_|exact spF|refine spQ fun hq hq'=>?_|refine spN fun hn=>?_|fail)
   exact rc3s rfl rfl rfl rfl rfl rfl (finSe (s:=zeroS) .nil) rfl (.one .nil) rfl finS_p rfl
 have hr:=right_parts h1
 have hw:=hr.2.2.2.2.2.2.2.1
 rw [h1] at c1
 haveI i1:PC Tryz.prog 20 [sV s] True (.p (.b true)):=⟨fun _=>c1⟩
 by_cases h2:keysF l=true
 case neg=>
  rw [Bool.not_eq_true] at h2
  rw [h2] at c2
  haveI i2:PC Tryz.prog 28 [.p (.sl 10 (l.map kR) ex)] True (.p (.b false)):=⟨fun _=>c2⟩
  rw [if_neg (by rw [h2];exact fun q=>by cases q.2.1)]
  clear c1 c2 c3 c4 c5 c7
  as_aux_lemma=>
   repeat' (first|refine jx20 ?_|refine jy0 ?_ ?_|exact spF|refine spQ fun hq hq'=>?_|refine spN fun hn=>?_|fail)
   exact rc3s rfl rfl rfl rfl rfl rfl (finSe (s:=zeroS) .nil) rfl (.one .nil) rfl finS_p rfl
 rw [h2] at c2
 haveI i2:PC Tryz.prog 28 [.p (.sl 10 (l.map kR) ex)] True (.p (.b true)):=⟨fun _=>c2⟩
 by_cases h3:rightM m=true
 case neg=>
  rw [Bool.not_eq_true] at h3
  rw [h3] at c3
  haveI i3:PC Tryz.prog 32 [mV m] True (.p (.b false)):=⟨fun _=>c3⟩
  rw [if_neg (by rw [h3];exact fun q=>by cases q.2.2)]
  clear c1 c2 c3 c4 c5 c7
  as_aux_lemma=>
   repeat' (first|refine jx20 ?_|refine jy0 ?_ ?_|exact spF|refine spQ fun hq hq'=>?_|refine spN fun hn=>?_|fail)
   exact rc3s rfl rfl rfl rfl rfl rfl (finSe (s:=zeroS) .nil) rfl (.one .nil) rfl finS_p rfl
 rw [h3] at c3
 haveI i3:PC Tryz.prog 32 [mV m] True (.p (.b true)):=⟨fun _=>c3⟩
 rw [if_pos ⟨h1,h2,h3⟩]
 by_cases h4:Bo.win now 0 1099511627776=true
 case neg=>
  rw [Bool.not_eq_true] at h4
  rw [h4] at c4
  haveI i4:PC Tryz.prog 55 [.p (.i now)] True (.p (.b false)):=⟨fun _=>c4⟩
  rw [if_neg (by rw [h4];exact fun q=>by cases q)]
  clear c1 c2 c3 c4 c5 c7
  as_aux_lemma=>
   repeat' (first|refine jx20 ?_|refine jy0 ?_ ?_|exact spF|refine spQ fun hq hq'=>?_|refine spN fun hn=>?_|fail)
   exact rc3s rfl rfl rfl rfl rfl rfl (finSe (s:=zeroS) .nil) rfl (.one .nil) rfl finS_p rfl
 rw [if_pos h4]
 have hn:0≤now∧now≤1099511627776:=of_decide_eq_true h4
 rw [h4] at c4
 haveI i4:PC Tryz.prog 55 [.p (.i now)] True (.p (.b true)):=⟨fun _=>c4⟩
 by_cases h5:s.round=0
 ·have d5:decide (s.round=0)=true:=decide_eq_true h5
  rw [if_neg (fun q=>q.1 h5)]
  clear c1 c2 c3 c4 c5 c7
  as_aux_lemma=>
   repeat' (first|refine jx20 ?_|refine jy0 ?_ ?_|exact spF|refine spQ fun hq hq'=>?_|refine spN fun hn=>?_|fail)
   exact rc3s rfl rfl rfl rfl rfl rfl (finSe (s:=zeroS) .nil) rfl (.one .nil) rfl finS_p rfl
 have d5:decide (s.round=0)=false:=decide_eq_false h5
 by_cases h6:mineF s m=true
 case neg=>
  rw [Bool.not_eq_true] at h6
  rw [h6] at c5
  haveI i5:PC Tryz.prog 61 [sV s,mV m] True (.p (.b false)):=⟨fun _=>c5⟩
  rw [if_neg (by rw [h6];exact fun q=>by cases q.2)]
  clear c1 c2 c3 c4 c5 c7
  as_aux_lemma=>
   repeat' (first|refine jx20 ?_|refine jy0 ?_ ?_|exact spF|refine spQ fun hq hq'=>?_|refine spN fun hn=>?_|fail)
   exact rc3s rfl rfl rfl rfl rfl rfl (finSe (s:=zeroS) .nil) rfl (.one .nil) rfl finS_p rfl
 rw [h6] at c5
 haveI i5:PC Tryz.prog 61 [sV s,mV m] True (.p (.b true)):=⟨fun _=>c5⟩
 rw [if_pos ⟨h5,h6⟩]
 have c6:=hear_w s l ex m now hl hw hn hm hp (hd h3)
 generalize hearF (ofF (txsF l s.part)) s m now=R at *
 obtain ⟨x,is⟩:=R
 dsimp only at c6 ⊢
 haveI i6:PC Tryz.prog 62 [sV s,.p (.sl 10 (l.map kR) ex),mV m,.p (.i now)] True (.tup [.agg (sL x),.one (.p (.b is))]):=⟨fun _=>c6⟩
 haveI i7:PC Tryz.prog 63 [.p (.sl 10 (m.kds.map kR) false)] True (.p (.sl 10 (m.kds.map kR) false)):=⟨fun _=>c7⟩
 clear c1 c2 c3 c4 c5 c6 c7 hl hm hd
 cases is with
 | false=>
  rw [if_neg (by decide)]
  as_aux_lemma=>
   repeat' (first|refine jx20 ?_|refine jy0 ?_ ?_|exact spF|refine spQ fun hq hq'=>?_|refine spN fun hn=>?_|fail)
   exact rc3s rfl rfl rfl rfl rfl rfl (finSe (s:=zeroS) .nil) rfl (.one .nil) rfl finS_p rfl
 | true=>
  rw [if_pos rfl]
  repeat' (first|refine jx20 ?_|refine jy0 ?_ ?_|exact spF|refine spQ fun hq hq'=>?_|refine spN fun hn=>?_|fail)
  refine aws_draws [(4,8)] mixed (by kernel_rfl) ?_
  repeat' (first|refine jx21 ?_|refine jy1 ?_ ?_|exact spF|refine spQ fun hq hq'=>?_|fail)
  as_aux_lemma=>
   repeat' (first|refine jx20 ?_|refine jy0 ?_ ?_|exact spF|refine spQ fun hq hq'=>?_|refine spN fun hn=>?_|fail)
   exact rc3s rfl rfl rfl rfl rfl rfl (finSe (s:=x) .p) rfl finS_p rfl finS_p rfl
end Go.Proofs.YtkgploeegbmofaaGreat.Wi
