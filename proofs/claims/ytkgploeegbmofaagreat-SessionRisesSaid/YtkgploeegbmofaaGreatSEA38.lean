/- sessions: what a session says -/
import Derived.Test.YtkgploeegbmofaaGreatSEA28
import Derived.Test.YtkgploeegbmofaaGreatSEA37
import Derived.Test.YtkgploeegbmofaaGreatSEA26
import Derived.Test.YtkgploeegbmofaaGreatSEA34
namespace Go.Proofs.YtkgploeegbmofaaGreat.Wi
open Go Go.RowKit Go.Aw Go.Aw.Sha Go.Aw.Cart Go.Aw.Tree Go.Aw.Clash Go.Proofs.YtkgploeegbmofaaGreat.Ca Go.Proofs.YtkgploeegbmofaaGreat.Rg
set_option linter.unusedVariables false
set_option linter.unusedSimpArgs false
set_option maxRecDepth 8000
set_option maxHeartbeats 4000000
attribute [local irreducible] sum
section
open T4
theorem clnN_w (l:List Int) (ex:Bool) (h:l.length≤1000000000):PCall Tryz.prog 50 [.p (.sl 1 (l.map iRw) ex)] (.p (.sl 1 (l.map iRw) false)):=by
 refine pcall_of Tryz.func50 rfl (fun w0 F S0 M0=>?_)
 repeat' (first|refine jx23 ?_|refine jy0 ?_ ?_|exact spF|refine spQ fun hq hq'=>?_|refine spN fun hn=>?_|fail)
 ·have e:l=[]:=List.eq_nil_of_length_eq_zero (by have:=congrArg List.length hn;rwa [List.length_map,List.length_nil] at this)
  subst e
  as_aux_lemma=>
   repeat' (first|refine jx3 ?_|refine jy0 ?_ ?_|exact spF|refine spQ fun hq hq'=>?_|refine spN fun hn=>?_|fail)
   exact rt1 rfl rfl (.one .nil) rfl
 ·repeat' (first|refine jx3 ?_|refine jy0 ?_ ?_|exact spF|refine spQ fun hq hq'=>?_|refine spN fun hn=>?_|fail)
  exact rt1 rfl rfl finS_p rfl
end
theorem lop_build6s {C:Ctx} {o:Oper} {σ:St} {T:TypeId} {x0 x1 x2 x3 x4 x5:Operand} {p0 p1 p2 p3 p4 p5:PVal} {fs:List (Nat × Nat)} {z:List Value} (ho:o.op=.build T #[(0,x0),(1,x1),(2,x2),(3,x3),(4,x4),(6,x5)]) (hF:TF C.P T fs) (hz:TZ C.P T z) (g0:σ.look x0=.p p0) (g1:σ.look x1=.p p1) (g2:σ.look x2=.p p2) (g3:σ.look x3=.p p3) (g4:σ.look x4=.p p4) (g5:σ.look x5=.p p5) (h1:z.all (·.oneCell')=true)
  (hb:bfill (fun i=>fs[i]?) (z.map fun v=>.p (.v v)) [(0,[.p p0]),(1,[.p p1]),(2,[.p p2]),(3,[.p p3]),(4,[.p p4]),(6,[.p p5])]=some (.p p0::.p p1::.p p2::.p p3::.p p4::(zeroD.map bcD++[.p p5,.p (.v (.slice none 0 0)),.p (.v (.slice none 0 0))]))) (hd:dOk C o.dst=true) :
  LOp C o σ ⟨.a (.p p0::.p p1::.p p2::.p p3::.p p4::(zeroD.map bcD++[.p p5,.p (.v (.slice none 0 0)),.p (.v (.slice none 0 0))])),[]⟩ (fun _=>false):=lop_build6 ho hF hz g0 g1 g2 g3 g4 g5 h1 hb hd
theorem lop_build0m {C:Ctx} {o:Oper} {σ:St} {T:TypeId} {fs:List (Nat × Nat)} {z:List Value} (ho:o.op=.build T #[]) (hF:TF C.P T fs) (hz:TZ C.P T z) (h1:z.all (·.oneCell')=true)
  (hb:bfill (fun i=>fs[i]?) (z.map fun v=>.p (.v v)) []=some (.p (.i 0)::.p (.i 0)::.p (.i 0)::.p (.i 0)::.p (.i 0)::(zeroD.map bcD++[.p (.v (.slice none 0 0)),.p (.v (.slice none 0 0)),.p (.v (.slice none 0 0))]))) (hd:dOk C o.dst=true) :
  LOp C o σ ⟨.a (.p (.i 0)::.p (.i 0)::.p (.i 0)::.p (.i 0)::.p (.i 0)::(zeroD.map bcD++[.p (.v (.slice none 0 0)),.p (.v (.slice none 0 0)),.p (.v (.slice none 0 0))])),[]⟩ (fun _=>false):=lop_build0 ho hF hz h1 hb hd
namespace S6
theorem lopC {C:Ctx} {o:Oper} {σ:St} {e:Eff} {ro:Nat→Bool} (h:LOp C o σ e ro:=by
  first|(apply lop_build6s;(focus rfl);(focus exact inferInstance);(focus exact inferInstance);(focus rfl);(focus rfl);(focus rfl);(focus rfl);(focus rfl);(focus rfl);(focus decide);(focus rfl);(focus rfl))|(apply lop_build0m;(focus rfl);(focus exact inferInstance);(focus exact inferInstance);(focus decide);(focus rfl);(focus rfl))|exact T4.lopC|fail):LOp C o σ e ro:=h
section steps
variable {C:Ctx} {ops:Array Oper} {o:Oper} {rest:List Oper} {K:St→Prop} {σ:St} {e:Eff} {ro:Nat→Bool} {W:List (Nat × Nat)} {i:Nat}
theorem rnC {d:Nat} (hg:Guard ops σ o true:=by first|exact gd_n rfl rfl|exact gd_t rfl rfl rfl rfl|exact gd_t rfl rfl rfl (by assumption)) (hd:o.dst=some d:=by rfl) (h:LOp C o σ e ro:=by exact lopC) (hk:RunN C ops rest K (e.app (some d) σ)):RunN C ops (o::rest) K σ:=rn_any hg hd h hk
theorem rkC {d:Nat} (hg:Guard ops σ o true:=by first|exact gd_n rfl rfl|exact gd_t rfl rfl rfl rfl|exact gd_t rfl rfl rfl (by assumption)) (hd':o.dst=some d:=by rfl) (hd:dOk C o.dst=true:=by rfl) (h:LOp C o σ e ro:=by exact lopC) (hro:∀ x,ro x=true→okObj ops W i x=true:=by first|exact fun _=>ro_none|exact ro_one rfl|exact ro_k1 rfl|exact ro_one (by kernel_rfl)|exact ro_k1 (by kernel_rfl)|exact ro_kIn (by decide)) (hob:∀ p∈e.obj,(i,p.1)∈W:=by first|exact ob_none|exact ob_one (by decide)|decide) (hk:RunK C ops W (i+1) rest K (e.app (some d) σ)):RunK C ops W i (o::rest) K σ:=rk_wr hg hd' hd h hro hob hk
end steps
end S6
open S6
def zM:Msg:=⟨0,0,0,0,0,zeroD,[],[],[]⟩
def saidF (T:List Nat) (s:Ses) (l:List Kd):Msg:=⟨s.round,s.self,s.peer,s.id,s.part,if s.round=1 then row T 0 else zeroD,s.pls,[],if s.round=3 then cartsF l s.part s.pls else []⟩
def sayF (T:List Nat) (s:Ses) (l:List Kd):Msg × Int:=
 if rightS s=true∧keysF l=true then (if s.round=0 then (zM,7) else (saidF T s l,0)) else (zM,3)
theorem say_w (s:Ses) (l:List Kd) (ex:Bool) (hp:s.pls.length≤9223372036854775807) (hl:LIn l) (hf:∀ k∈l,k.2.2.length≤1000000) (hp2:rightS s=true→s.pls.length≤40):PCall Tryz.prog 27 [sV s,.p (.sl 10 (l.map kR) ex)] (.tup [.agg (mL (sayF (ofF (txsF l s.part)) s l).1),.one (.p (.i (sayF (ofF (txsF l s.part)) s l).2))]):=by
 refine pcall_of Tryz.func27 rfl (fun w0 F S0 M0=>?_)
 have hz32:(zeroD.map bcD).length=32:=rfl
 have c1:=sright_w s hp
 have c2:=pright_w l ex (by have:=hl.len;omega) hl.kd hl.few
 unfold sayF
 by_cases h1:rightS s=true
 case neg=>
  rw [Bool.not_eq_true] at h1
  rw [h1] at c1
  haveI i1:PC Tryz.prog 20 [sV s] True (.p (.b false)):=⟨fun _=>c1⟩
  rw [if_neg (by rw [h1];exact fun q=>by cases q.1)]
  clear c1 c2
  as_aux_lemma=>
   repeat' (first|refine jx20 ?_|refine jy0 ?_ ?_|exact spF|refine spQ fun hq hq'=>?_|refine spN fun hn=>?_|fail)
   exact rc2 rfl rfl rfl rfl rfl (mlen hz32) (finM .nil .nil .nil) rfl finS_p rfl
 have h40:=hp2 h1
 have hr:=right_parts h1
 rw [h1] at c1
 haveI i1:PC Tryz.prog 20 [sV s] True (.p (.b true)):=⟨fun _=>c1⟩
 by_cases h2:keysF l=true
 case neg=>
  rw [Bool.not_eq_true] at h2
  rw [h2] at c2
  haveI i2:PC Tryz.prog 28 [.p (.sl 10 (l.map kR) ex)] True (.p (.b false)):=⟨fun _=>c2⟩
  rw [if_neg (by rw [h2];exact fun q=>by cases q.2)]
  clear c1 c2
  as_aux_lemma=>
   repeat' (first|refine jx20 ?_|refine jy0 ?_ ?_|exact spF|refine spQ fun hq hq'=>?_|refine spN fun hn=>?_|fail)
   exact rc2 rfl rfl rfl rfl rfl (mlen hz32) (finM .nil .nil .nil) rfl finS_p rfl
 rw [h2] at c2
 haveI i2:PC Tryz.prog 28 [.p (.sl 10 (l.map kR) ex)] True (.p (.b true)):=⟨fun _=>c2⟩
 clear c1 c2
 rw [if_pos ⟨h1,h2⟩]
 by_cases h3:s.round=0
 ·have d0:decide (s.round=0)=true:=decide_eq_true h3
  rw [if_pos h3]
  as_aux_lemma=>
   repeat' (first|refine jx20 ?_|refine jy0 ?_ ?_|exact spF|refine spQ fun hq hq'=>?_|refine spN fun hn=>?_|fail)
   exact rc2 rfl rfl rfl rfl rfl (mlen hz32) (finM .nil .nil .nil) rfl finS_p rfl
 rw [if_neg h3]
 have d0:decide (s.round=0)=false:=decide_eq_false h3
 have c3:=clnN_w s.pls false (by omega)
 haveI i3:PC Tryz.prog 50 [.p (.sl 1 (s.pls.map iRw) false)] True (.p (.sl 1 (s.pls.map iRw) false)):=⟨fun _=>c3⟩
 unfold saidF
 by_cases r1:s.round=1
 ·have d1:decide (s.round=1)=true:=decide_eq_true r1
  have c4:=tpart_w l ex s.part hl
  have lT:=ofF_672' (txsF l s.part)
  rw [if_pos r1,if_neg (show ¬ s.round=3 by omega)]
  generalize ofF (txsF l s.part)=T at *
  haveI i4:PC Tryz.prog 30 [.p (.sl 10 (l.map kR) ex),.p (.i s.part)] True (Tr.tv T):=⟨fun _=>c4⟩
  have h32:(rowOf 32 T (Int.toNat 0)).length=32:=row_len lT (by omega)
  have h32m:((rowOf 32 T (Int.toNat 0)).map bcD).length=32:=by rw [List.length_map];exact h32
  clear c3 c4
  repeat' (first|refine jx20 ?_|refine jy0 ?_ ?_|exact spF|refine spQ fun hq hq'=>?_|refine spN fun hn=>?_|fail)
  refine aws_draws [(14,6),(15,6)] mixed (by kernel_rfl) ?_
  repeat' (first|refine jx21 ?_|refine jy1 ?_ ?_|exact spF|refine spQ fun hq hq'=>?_|fail)
  as_aux_lemma=>
   repeat' (first|refine jx20 ?_|refine jy0 ?_ ?_|exact spF|refine spQ fun hq hq'=>?_|refine spN fun hn=>?_|fail)
   exact rc2 rfl rfl rfl rfl rfl (mlen h32m) (finM .p .nil .nil) rfl finS_p rfl
 have d1:decide (s.round=1)=false:=decide_eq_false r1
 rw [if_neg r1]
 by_cases r3:s.round=3
 ·have d3:decide (s.round=3)=true:=decide_eq_true r3
  have c4:=carts_w l ex s.part s.pls false hl hf h40
  rw [if_pos r3]
  generalize cartsF l s.part s.pls=K at *
  haveI i4:PC Tryz.prog 65 [.p (.sl 10 (l.map kR) ex),.p (.i s.part),.p (.sl 1 (s.pls.map iRw) false)] True (.p (.sl 10 (K.map kR) false)):=⟨fun _=>c4⟩
  clear c3 c4
  repeat' (first|refine jx20 ?_|refine jy0 ?_ ?_|exact spF|refine spQ fun hq hq'=>?_|refine spN fun hn=>?_|fail)
  refine aws_draws [(14,6),(15,6)] mixed (by kernel_rfl) ?_
  repeat' (first|refine jx21 ?_|refine jy1 ?_ ?_|exact spF|refine spQ fun hq hq'=>?_|fail)
  as_aux_lemma=>
   repeat' (first|refine jx20 ?_|refine jy0 ?_ ?_|exact spF|refine spQ fun hq hq'=>?_|refine spN fun hn=>?_|fail)
   exact rc2 rfl rfl rfl rfl rfl (mlen hz32) (finM .p .nil .p) rfl finS_p rfl
 have d3:decide (s.round=3)=false:=decide_eq_false r3
 rw [if_neg r3]
 clear c3
 repeat' (first|refine jx20 ?_|refine jy0 ?_ ?_|exact spF|refine spQ fun hq hq'=>?_|refine spN fun hn=>?_|fail)
 refine aws_draws [(14,6),(15,6)] mixed (by kernel_rfl) ?_
 repeat' (first|refine jx21 ?_|refine jy1 ?_ ?_|exact spF|refine spQ fun hq hq'=>?_|fail)
 as_aux_lemma=>
  repeat' (first|refine jx20 ?_|refine jy0 ?_ ?_|exact spF|refine spQ fun hq hq'=>?_|refine spN fun hn=>?_|fail)
  exact rc2 rfl rfl rfl rfl rfl (mlen hz32) (finM .p .nil .nil) rfl finS_p rfl
end Go.Proofs.YtkgploeegbmofaaGreat.Wi
