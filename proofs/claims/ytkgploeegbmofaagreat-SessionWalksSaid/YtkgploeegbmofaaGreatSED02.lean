/- sessions, the law SessionWalks: what a peer tells -/
import Derived.Test.YtkgploeegbmofaaGreatSED01
namespace Go.Proofs.YtkgploeegbmofaaGreat.Wi
open Go Go.RowKit Go.Aw Go.Aw.Sha Go.Aw.Cart Go.Aw.Tree Go.Aw.Clash Go.Proofs.YtkgploeegbmofaaGreat.Ca Go.Proofs.YtkgploeegbmofaaGreat.Rg
set_option linter.unusedVariables false
set_option linter.unusedSimpArgs false
set_option maxRecDepth 8000
set_option maxHeartbeats 4000000
attribute [local irreducible] sum
theorem says_inex_at {C:Ctx} {σ:St} {p np tyb es k:Nat} {cs ds:List AC} {rows:List (List PVal)} {ex:Bool} (hp:σ.mem p=(np,some (.box tyb cs))) (hk:cs[k]?=some (.p (.sl es rows ex))) (hds:cs.set k (.p (.sl es rows false))=ds):Says C σ (σ.put p (np,some (.box tyb ds))):=by
 subst hds
 rintro a w ⟨G,h⟩
 refine ⟨_,h.remem (o:=p) (n:=np) (mo:=.box tyb cs) hp ?_⟩
 rintro m ⟨b,arr,h1,h2,h3,h4⟩
 refine ⟨b,arr,h1,h2,h3,h4.turn fun v hv=>?_⟩
 obtain ⟨v',hv',hh⟩:=h4.get hk
 rw [hv] at hv';obtain rfl:=Option.some.inj hv'
 obtain ⟨base,cap,k1,k2,k3,k4,k5⟩:=hh
 exact ⟨base,cap,k1,k2,k3,by simp,k5⟩
theorem lop_build4s {C:Ctx} {o:Oper} {σ:St} {T:TypeId} {x0 x1 x2 x3:Operand} {p0 p1 p2 p3:PVal} {fs:List (Nat × Nat)} {z:List Value} (ho:o.op=.build T #[(1,x0),(2,x1),(3,x2),(4,x3)]) (hF:TF C.P T fs) (hz:TZ C.P T z) (g0:σ.look x0=.p p0) (g1:σ.look x1=.p p1) (g2:σ.look x2=.p p2) (g3:σ.look x3=.p p3) (h1:z.all (·.oneCell')=true)
  (hb:bfill (fun i=>fs[i]?) (z.map fun v=>.p (.v v)) [(1,[.p p0]),(2,[.p p1]),(3,[.p p2]),(4,[.p p3])]=some (.p (.i 0)::.p p0::.p p1::.p p2::.p p3::(zeroD.map bcD++[.p (.v (.slice none 0 0)),.p (.v (.slice none 0 0)),.p (.v (.slice none 0 0))]))) (hd:dOk C o.dst=true) :
  LOp C o σ ⟨.a (.p (.i 0)::.p p0::.p p1::.p p2::.p p3::(zeroD.map bcD++[.p (.v (.slice none 0 0)),.p (.v (.slice none 0 0)),.p (.v (.slice none 0 0))])),[]⟩ (fun _=>false):=lop_build4 ho hF hz g0 g1 g2 g3 h1 hb hd
namespace SV
theorem lopC {C:Ctx} {o:Oper} {σ:St} {e:Eff} {ro:Nat→Bool} (h:LOp C o σ e ro:=by
  first|(apply lop_build4s;(focus rfl);(focus exact inferInstance);(focus exact inferInstance);(focus rfl);(focus rfl);(focus rfl);(focus rfl);(focus decide);(focus rfl);(focus rfl))|(apply lop_call6;(focus rfl);(focus exact inferInstance);(focus rfl);(focus rfl);(focus rfl);(focus rfl);(focus rfl);(focus rfl);(focus exact inferInstance);(focus exact inferInstance);(focus first|exact True.intro|assumption|rfl|omega|((repeat' (first|assumption|refine And.intro ?_ ?_|omega|rfl));done)|fail);(focus rfl))|exact S6.lopC|exact S1.lopC|exact lopB|exact lopZ|fail):LOp C o σ e ro:=h
section steps
variable {C:Ctx} {ops:Array Oper} {o:Oper} {rest:List Oper} {K:St→Prop} {σ:St} {e:Eff} {ro:Nat→Bool} {W:List (Nat × Nat)} {i:Nat}
theorem rnC {d:Nat} (hg:Guard ops σ o true:=by first|exact gd_n rfl rfl|exact gd_t rfl rfl rfl rfl|exact gd_t rfl rfl rfl (by assumption)) (hd:o.dst=some d:=by rfl) (h:LOp C o σ e ro:=by exact lopC) (hk:RunN C ops rest K (e.app (some d) σ)):RunN C ops (o::rest) K σ:=rn_any hg hd h hk
theorem rkC {d:Nat} (hg:Guard ops σ o true:=by first|exact gd_n rfl rfl|exact gd_t rfl rfl rfl rfl|exact gd_t rfl rfl rfl (by assumption)) (hd':o.dst=some d:=by rfl) (hd:dOk C o.dst=true:=by rfl) (h:LOp C o σ e ro:=by exact lopC) (hro:∀ x,ro x=true→okObj ops W i x=true:=by first|exact fun _=>ro_none|exact ro_one rfl|exact ro_k1 rfl|exact ro_one (by kernel_rfl)|exact ro_k1 (by kernel_rfl)|exact ro_kIn (by decide)) (hob:∀ p∈e.obj,(i,p.1)∈W:=by first|exact ob_none|exact ob_one (by decide)|decide) (hk:RunK C ops W (i+1) rest K (e.app (some d) σ)):RunK C ops W i (o::rest) K σ:=rk_wr hg hd' hd h hro hob hk
end steps
end SV
open SV
theorem answer_w (l:List Kd) (ex:Bool) (m:Msg) (hl:LIn l) (hm:m.dig.length=32) (hp:m.pls.length≤100) (hk:m.kind=1∨m.kind=2∨m.kind=3):PCall Tryz.prog 35 [.p (.sl 10 (l.map kR) ex),mV m] (mV (ansF (ofF (txsF l m.part)) m)):=by
 refine pcall_of Tryz.func35 rfl (fun w0 F S0 M0=>?_)
 have h32:(m.dig.map bcD).length=32:=by rw [List.length_map];exact hm
 have hz32:(zeroD.map bcD).length=32:=rfl
 have c1:=tpart_w l ex m.part hl
 have lT:=ofF_672' (txsF l m.part)
 unfold ansF
 generalize ofF (txsF l m.part)=U at *
 haveI i1:PC Tryz.prog 30 [.p (.sl 10 (l.map kR) ex),.p (.i m.part)] True (Tr.tv U):=⟨fun _=>c1⟩
 have hU:(U.map bcD).length=672:=by rw [List.length_map];exact lT
 have hrl:(rowOf 32 U (Int.toNat 0)).length=32:=row_len lT (by omega)
 rcases hk with k1|k1|k1
 ·have d1:decide (m.kind=1)=true:=decide_eq_true k1
  rw [if_pos k1]
  by_cases q:row U 0=m.dig
  ·rw [if_pos q]
   have q':rowOf 32 U (Int.toNat 0)=m.dig:=q
   have dq:decide (rowOf 32 U (Int.toNat 0)=m.dig)=true:=decide_eq_true q'
   clear c1
   as_aux_lemma=>
    repeat' (first|refine jx20 ?_|refine jy0 ?_ ?_|exact spF|refine spQ fun hq hq'=>?_|refine spN fun hn=>?_|fail)
    exact rc1 rfl rfl rfl rfl rfl (mlen hz32) (finM .nil .nil .nil) rfl
  ·rw [if_neg q]
   have q':¬ rowOf 32 U (Int.toNat 0)=m.dig:=q
   have dq:decide (rowOf 32 U (Int.toNat 0)=m.dig)=false:=decide_eq_false q'
   have c2:=Cl.digs_w U [0] true ⟨lT,by decide⟩
   haveI i2:PC Tryz.prog 79 [Tr.tv U,.p (.sl 1 [[.i 0]] true)] True (.p (.sl 32 ((digsL U (kidsL [0])).map dRw) false)):=⟨fun _=>c2⟩
   clear c1 c2
   repeat' (first|refine jx25 ?_|refine jy0 ?_ ?_|exact spF|refine spQ fun hq hq'=>?_|refine spN fun hn=>?_|fail)
   refine aws_says (says_inex_at (p:=4) (k:=0+37) rfl (mc37 hz32) (ms37 hz32)) ?_
   as_aux_lemma=>
    repeat' (first|refine jx20 ?_|refine jy0 ?_ ?_|exact spF|refine spQ fun hq hq'=>?_|refine spN fun hn=>?_|fail)
    exact rc1 rfl rfl rfl rfl rfl (mlen hz32) (finM (x':=.p (.sl 1 (([0]:List Int).map iRw) false)) .p .p .nil) rfl
 ·have d1:decide (m.kind=1)=false:=decide_eq_false (by omega)
  have d2:decide (m.kind=2)=true:=decide_eq_true k1
  rw [if_neg (by omega),if_pos k1]
  have c2:=Cl.digs_w U m.pls false ⟨lT,hp⟩
  haveI i2:PC Tryz.prog 79 [Tr.tv U,.p (.sl 1 (m.pls.map iRw) false)] True (.p (.sl 32 ((digsL U (kidsL m.pls)).map dRw) false)):=⟨fun _=>c2⟩
  generalize digsL U (kidsL m.pls)=D at *
  clear c1 c2
  repeat' (first|refine jx20 ?_|refine jy0 ?_ ?_|exact spF|refine spQ fun hq hq'=>?_|refine spN fun hn=>?_|fail)
  refine aws_draws [(3,6),(5,6)] mixed (by kernel_rfl) ?_
  repeat' (first|refine jx21 ?_|refine jy1 ?_ ?_|exact spF|refine spQ fun hq hq'=>?_|fail)
  as_aux_lemma=>
   repeat' (first|refine jx20 ?_|refine jy0 ?_ ?_|exact spF|refine spQ fun hq hq'=>?_|refine spN fun hn=>?_|fail)
   exact rc1 rfl rfl rfl rfl rfl (mlen hz32) (finM .p .p .nil) rfl
 ·have d1:decide (m.kind=1)=false:=decide_eq_false (by omega)
  have d2:decide (m.kind=2)=false:=decide_eq_false (by omega)
  rw [if_neg (by omega),if_neg (by omega)]
  clear c1
  repeat' (first|refine jx20 ?_|refine jy0 ?_ ?_|exact spF|refine spQ fun hq hq'=>?_|refine spN fun hn=>?_|fail)
  refine aws_draws [(3,6),(5,6)] mixed (by kernel_rfl) ?_
  repeat' (first|refine jx21 ?_|refine jy1 ?_ ?_|exact spF|refine spQ fun hq hq'=>?_|fail)
  as_aux_lemma=>
   repeat' (first|refine jx20 ?_|refine jy0 ?_ ?_|exact spF|refine spQ fun hq hq'=>?_|refine spN fun hn=>?_|fail)
   exact rc1 rfl rfl rfl rfl rfl (mlen hz32) (finM .p .nil .nil) rfl
end Go.Proofs.YtkgploeegbmofaaGreat.Wi
