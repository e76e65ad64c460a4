/- inputs, the reference: which may be; as the document's (printed by genq.py) -/
import Derived.Test.YtcbhmngagibhmaaGreatPRC04
import Derived.Test.YtcbhmngagibhmaaGreatPRC02
import Derived.Test.YtcbhmngagibhmaaGreatPRA41
namespace Go.Proofs.YtcbhmngagibhmaaGreat.Wi
open Go Go.RowKit Go.Aw Go.Aw.Cart Go.Aw.Tree Go.Proofs.YtcbhmngagibhmaaGreat.Ca Go.Proofs.YtcbhmngagibhmaaGreat.Rg
set_option linter.unusedVariables false
set_option linter.unusedSimpArgs false
set_option maxRecDepth 8000
set_option maxHeartbeats 4000000
theorem lop_bM0 {C:Ctx} {o:Oper} {σ:St} {T:TypeId} {fs:List (Nat × Nat)} {z:List Value} (ho:o.op=.build T #[]) (hF:TF C.P T fs) (hz:TZ C.P T z) (h1:z.all (·.oneCell')=true)
  (hb:bfill (fun i=>fs[i]?) (z.map fun v=>.p (.v v)) []=some zMC) (hd:dOk C o.dst=true):LOp C o σ ⟨.a zMC,[]⟩ (fun _=>false):=lop_build0 ho hF hz h1 hb hd
theorem bfill_app {P:Nat→Option (Nat × Nat)}:∀ (l m:List (Nat × List AC)) (c:List AC),bfill P c (l++m)=(bfill P c l).bind fun d=>bfill P d m
 | [],m,c=>rfl
 | (i,v)::l,m,c=>by
  rw [List.cons_append,bfill,bfill]
  cases P i with
  | none=>rfl
  | some x=>
   obtain ⟨off,size⟩:=x
   try dsimp only
   split
   ·exact bfill_app l m _
   ·rfl
theorem lop_buildI6 {C:Ctx} {o:Oper} {σ:St} {T:TypeId} {x0 x1 x2 x3 x4 x5:Operand} {p0 p1 p2 p4:PVal} {a b c:AC} {M:List AC} {fs:List (Nat × Nat)} {z:List Value} (ho:o.op=.build T #[(0,x0),(1,x1),(2,x2),(3,x3),(4,x4),(5,x5)]) (hF:TF C.P T fs) (hz:TZ C.P T z)
  (g0:σ.look x0=.p p0) (g1:σ.look x1=.p p1) (g2:σ.look x2=.p p2) (g3:σ.look x3=.a [a,b,c]) (g4:σ.look x4=.p p4) (g5:σ.look x5=.a M) (hM:M.length=40) (h1:z.all (·.oneCell')=true)
  (hb:bfill (fun i=>fs[i]?) (z.map fun v=>.p (.v v)) [(0,[.p p0]),(1,[.p p1]),(2,[.p p2]),(3,[a,b,c]),(4,[.p p4])]=some (.p p0::.p p1::.p p2::a::b::c::.p p4::zMC)) (h5:fs[5]?=some (7,40)) (hd:dOk C o.dst=true) :
  LOp C o σ ⟨.a (.p p0::.p p1::.p p2::a::b::c::.p p4::M),[]⟩ (fun _=>false):=
 lop_buildx (ps:=[(0,[.p p0]),(1,[.p p1]),(2,[.p p2]),(3,[a,b,c]),(4,[.p p4]),(5,M)]) ho hF hz (.cons ⟨rfl,_,g0,rfl⟩ (.cons ⟨rfl,_,g1,rfl⟩ (.cons ⟨rfl,_,g2,rfl⟩ (.cons ⟨rfl,_,g3,rfl⟩ (.cons ⟨rfl,_,g4,rfl⟩ (.cons ⟨rfl,_,g5,rfl⟩ .nil)))))) h1 (by
  have e:=bfill_app (P:=fun i=>fs[i]?) [(0,[.p p0]),(1,[.p p1]),(2,[.p p2]),(3,[a,b,c]),(4,[.p p4])] [(5,M)] (z.map fun v=>.p (.v v))
  rw [hb] at e
  refine e.trans ?_
  show bfill _ _ [(5,M)]=_
  rw [bfill]
  try dsimp only
  rw [h5]
  try dsimp only
  rw [if_pos ⟨hM,Nat.le_of_eq (il47 zMC_len).symm⟩,bfill]
  show some (.p p0::.p p1::.p p2::a::b::c::.p p4::(M++zMC.drop 40))=_
  rw [List.drop_of_length_le (by decide),List.append_nil]) hd
namespace Q2
theorem lopC {C:Ctx} {o:Oper} {σ:St} {e:Eff} {ro:Nat→Bool} (h:LOp C o σ e ro:=by
  first|(apply lop_bM0;(focus rfl);(focus exact inferInstance);(focus exact inferInstance);(focus decide);(focus rfl);(focus rfl))|(apply lop_buildI6;(focus rfl);(focus exact inferInstance);(focus exact inferInstance);(focus rfl);(focus rfl);(focus rfl);(focus rfl);(focus rfl);(focus rfl);(focus assumption);(focus decide);(focus rfl);(focus rfl);(focus rfl))|(apply lop_eqs (b:=([]:List Nat));(focus rfl);(focus exact inferInstance);(focus rfl);(focus rfl);(focus assumption);(focus exact nil_ok);(focus rfl))|exact I1.lopC|fail):LOp C o σ e ro:=h
section steps
variable {C:Ctx} {ops:Array Oper} {o:Oper} {rest:List Oper} {K:St→Prop} {σ:St} {e:Eff} {ro:Nat→Bool} {W:List (Nat × Nat)} {i:Nat}
theorem rnC {d:Nat} (hg:Guard ops σ o true:=by first|exact gd_n rfl rfl|exact gd_t rfl rfl rfl rfl|exact gd_t rfl rfl rfl (by assumption)) (hd:o.dst=some d:=by rfl) (h:LOp C o σ e ro:=by exact lopC) (hk:RunN C ops rest K (e.app (some d) σ)):RunN C ops (o::rest) K σ:=rn_any hg hd h hk
theorem rkC {d:Nat} (hg:Guard ops σ o true:=by first|exact gd_n rfl rfl|exact gd_t rfl rfl rfl rfl|exact gd_t rfl rfl rfl (by assumption)) (hd':o.dst=some d:=by rfl) (hd:dOk C o.dst=true:=by rfl) (h:LOp C o σ e ro:=by exact lopC) (hro:∀ x,ro x=true→okObj ops W i x=true:=by first|exact fun _=>ro_none|exact ro_one rfl|exact ro_k1 rfl|exact ro_one (by kernel_rfl)|exact ro_k1 (by kernel_rfl)|exact ro_kIn (by decide)) (hob:∀ p∈e.obj,(i,p.1)∈W:=by first|exact ob_none|exact ob_one (by decide)|decide) (hk:RunK C ops W (i+1) rest K (e.app (some d) σ)):RunK C ops W i (o::rest) K σ:=rk_wr hg hd' hd h hro hob hk
end steps
end Q2
open Q2
theorem as30_g (x:Inp) (M:List AC) [pM:PureL M] (hM:M.length=40) (hF:∀ (σ:St) (K:Nat→Bool),All2 (FinC σ K) M M) (c:PCall Tryz.prog 11 [.a M] (.a M)):PCall Tryz.prog 41 [.a (iC x M)] (.a (iC x M)):=by
 refine pcall_of Tryz.func41 rfl (fun w0 F S0 M0=>?_)
 haveI i1:PC Tryz.prog 11 [.a M] True (.a M):=⟨fun _=>c⟩
 haveI i2:PC Tryz.prog 117 [opV x.op] True (opV x.op):=⟨fun _=>as07_w x.op⟩
 repeat' (first|refine jx24 ?_|refine jy0 ?_ ?_|exact spF|refine spQ fun hq hq'=>?_|refine spN fun hn=>?_|fail)
 refine aws_draws [(15,2)] mixed (by kernel_rfl) ?_
 repeat' (first|refine jx25 ?_|refine jy1 ?_ ?_|exact spF|refine spQ fun hq hq'=>?_|fail)
 as_aux_lemma=>
  repeat' (first|refine jx24 ?_|refine jy0 ?_ ?_|exact spF|refine spQ fun hq hq'=>?_|refine spN fun hn=>?_|fail)
  exact rc1 rfl rfl rfl rfl rfl (il47 hM) (finI (hF _ _)) rfl
theorem as30_w (x:Inp) (h:MIn x.msg):PCall Tryz.prog 41 [iV x] (iV x):=as30_g x _ (mL_len h.d32) (fun _ _=>fin_mL _) (as26_w x.msg h)
theorem refRight30a_g (x:Inp) (M:List AC) [pM:PureL M] (hM:M.length=40) (S R:Bool) (kx:okB x.key) (kl:x.key.length≤1000000) (hS:S=msI x) (hR:R=rightM x.msg) (hq:KOf (x.kind=1∨x.kind=2)) (c1:PCall Tryz.prog 18 [.a M,.a zMC] (.p (.b S))) (c2:PCall Tryz.prog 16 [.a M] (.p (.b R))):PCall Tryz.prog 40 [.a (iC x M)] (.p (.b (refI x))):=by
 refine pcall_of Tryz.func40 rfl (fun w0 F S0 M0=>?_)
 have c3:=refKeyRight_w x.key kx kl
 have c4:=Go.Proofs.YtcbhmngagibhmaaGreat.Cq.may7_r x.op
 obtain ⟨Y,hY⟩:∃ Y,Y=mayF x.op:=⟨_,rfl⟩
 obtain ⟨A,hA⟩:∃ A,A=cliF x.id x.key:=⟨_,rfl⟩
 rw [← hY] at c4
 haveI i1:PC Tryz.prog 18 [.a M,.a zMC] True (.p (.b S)):=⟨fun _=>c1⟩
 haveI i2:PC Tryz.prog 16 [.a M] True (.p (.b R)):=⟨fun _=>c2⟩
 haveI i4:PC Tryz.prog 116 [.a [.p (.i x.op.1),.p (.i x.op.2.1),.p (.i x.op.2.2)]] True (.p (.b Y)):=⟨fun _=>c4⟩
 clear c1 c2 c4
 refine aws_seq ?_
 refine aws_mid (fun _:Unit=>True) (fun _=>[(1,.o (.ptr 1 0 0))]) (fun _=>[(1,(1,some (.box 88 (iC x M))))]) ?_ ?_
 ·repeat' (first|refine jx24 ?_|refine jy0 ?_ ?_|exact spF|refine spQ fun hq hq'=>?_|refine spN fun hn=>?_|fail)
  exact ⟨(),trivial,by exact knA,by exact knA⟩
 rintro ⟨⟩ ν1 -
 try refine aws_seq ?_
 refine aws_mid (fun b:Bool × Bool × Bool × Bool=>b.1=idI x∧b.2.1=keI x∧b.2.2.1=opI x∧b.2.2.2=drI x) (fun b=>[(1,.o (.ptr 1 0 0)),(3,.p (.b b.1)),(4,.p (.b b.2.1)),(5,.p (.b b.2.2.1)),(6,.p (.b b.2.2.2)),(7,.p (.b S))]) (fun _=>[(1,(1,some (.box 88 (iC x M))))]) ?_ ?_
 ·repeat' (first|refine jx23 ?_|refine jy0 ?_ ?_|exact spF|refine spQ fun hq hq'=>?_|refine spN fun hn=>?_|fail)
  exact ⟨(_,_,_,_),⟨rfl,rfl,op_eq x.op (0,0,0),decide_eq_decide.2 (show ((x.draw:Int)=0)↔x.draw=0 by omega)⟩,by exact knA,by exact knA⟩
 rintro ⟨i,k,o,d⟩ ν2 ⟨hi,hk,ho,hd⟩
 dsimp only at hi hk ho hd ⊢
 try refine aws_seq ?_
 refine aws_mid (fun b:Bool=>b=A) (fun b=>[(1,.o (.ptr 1 0 0)),(3,.p (.b i)),(4,.p (.b k)),(5,.p (.b o)),(6,.p (.b d)),(7,.p (.b S)),(8,.p (.b b))]) (fun _=>[(1,(1,some (.box 88 (iC x M))))]) ?_ ?_
 ·rw [hA]
  unfold cliF
  generalize keyR x.key=KR at c3
  haveI i3:PC Tryz.prog 115 [.p (.v (.string (strOf x.key)))] True (.p (.b KR)):=⟨fun _=>c3⟩
  clear hi hk ho hd hS hR hY hA c3
  rw [show decide (1≤x.id)=decide (0 < x.id) from decide_eq_decide.2 (by omega)]
  cases h1:decide (0 < x.id) with
  | false=>
   rw [Bool.false_and]
   as_aux_lemma=>
    repeat' (first|refine jx24 ?_|refine jy0 ?_ ?_|exact spF|refine spQ fun hq hq'=>?_|refine spN fun hn=>?_|fail)
    exact ⟨_,rfl,by exact knA,by exact knA⟩
  | true=>
   rw [Bool.true_and]
   cases h2:decide (x.id≤1099511627776) with
   | false=>
    rw [Bool.false_and]
    as_aux_lemma=>
     repeat' (first|refine jx24 ?_|refine jy0 ?_ ?_|exact spF|refine spQ fun hq hq'=>?_|refine spN fun hn=>?_|fail)
     exact ⟨_,rfl,by exact knA,by exact knA⟩
   | true=>
    rw [Bool.true_and]
    as_aux_lemma=>
     repeat' (first|refine jx24 ?_|refine jy0 ?_ ?_|exact spF|refine spQ fun hq hq'=>?_|refine spN fun hn=>?_|fail)
     exact ⟨_,rfl,by exact knA,by exact knA⟩
 intro b ν3 hb
 rw [hb]
 clear hb c3
 by_cases q1:x.kind=1
 ·have d1:decide (x.kind=1)=true:=decide_eq_true q1
  rw [show refI x=(A&&(Y&&(d&&S))) by simp only [hA,hY,hd,hS];simp [refI,q1]]
  clear hi hk ho hd hS hR hY hA
  as_aux_lemma=>
   repeat' (first|refine jx24 ?_|refine jy0 ?_ ?_|exact spF|refine spQ fun hq hq'=>?_|refine spN fun hn=>?_|fail)
   all_goals exact rt1 rfl rfl finS_p (by simp [*])
 have d1:decide (x.kind=1)=false:=decide_eq_false q1
 by_cases q2:x.kind=2
 ·have d2:decide (x.kind=2)=true:=decide_eq_true q2
  rw [show refI x=(A&&(o&&(d&&S))) by simp only [hA,ho,hd,hS];simp [refI,q2]]
  clear hi hk ho hd hS hR hY hA
  as_aux_lemma=>
   repeat' (first|refine jx24 ?_|refine jy0 ?_ ?_|exact spF|refine spQ fun hq hq'=>?_|refine spN fun hn=>?_|fail)
   all_goals exact rt1 rfl rfl finS_p (by simp [*])
 have d2:decide (x.kind=2)=false:=decide_eq_false q2
 have q3:¬ x.kind=3:=by have:=hq.v;omega
 have d3:decide (x.kind=3)=false:=decide_eq_false q3
 have q6:¬ x.kind=6:=by have:=hq.v;omega
 have d6:decide (x.kind=6)=false:=decide_eq_false q6
 have q7:¬ x.kind=7:=by have:=hq.v;omega
 have d7:decide (x.kind=7)=false:=decide_eq_false q7
 have q8:¬ x.kind=8:=by have:=hq.v;omega
 have d8:decide (x.kind=8)=false:=decide_eq_false q8
 have q4:¬ x.kind=4:=by have:=hq.v;omega
 have d4:decide (x.kind=4)=false:=decide_eq_false q4
 have q5:¬ x.kind=5:=by have:=hq.v;omega
 have d5:decide (x.kind=5)=false:=decide_eq_false q5
 exact absurd hq.v (by omega)
theorem refRight30b_g (x:Inp) (M:List AC) [pM:PureL M] (hM:M.length=40) (S R:Bool) (kx:okB x.key) (kl:x.key.length≤1000000) (hS:S=msI x) (hR:R=rightM x.msg) (hq:KOf (x.kind=3∨x.kind=6)) (c1:PCall Tryz.prog 18 [.a M,.a zMC] (.p (.b S))) (c2:PCall Tryz.prog 16 [.a M] (.p (.b R))):PCall Tryz.prog 40 [.a (iC x M)] (.p (.b (refI x))):=by
 refine pcall_of Tryz.func40 rfl (fun w0 F S0 M0=>?_)
 have c3:=refKeyRight_w x.key kx kl
 have c4:=Go.Proofs.YtcbhmngagibhmaaGreat.Cq.may7_r x.op
 obtain ⟨Y,hY⟩:∃ Y,Y=mayF x.op:=⟨_,rfl⟩
 obtain ⟨A,hA⟩:∃ A,A=cliF x.id x.key:=⟨_,rfl⟩
 rw [← hY] at c4
 haveI i1:PC Tryz.prog 18 [.a M,.a zMC] True (.p (.b S)):=⟨fun _=>c1⟩
 haveI i2:PC Tryz.prog 16 [.a M] True (.p (.b R)):=⟨fun _=>c2⟩
 haveI i4:PC Tryz.prog 116 [.a [.p (.i x.op.1),.p (.i x.op.2.1),.p (.i x.op.2.2)]] True (.p (.b Y)):=⟨fun _=>c4⟩
 clear c1 c2 c4
 refine aws_seq ?_
 refine aws_mid (fun _:Unit=>True) (fun _=>[(1,.o (.ptr 1 0 0))]) (fun _=>[(1,(1,some (.box 88 (iC x M))))]) ?_ ?_
 ·repeat' (first|refine jx24 ?_|refine jy0 ?_ ?_|exact spF|refine spQ fun hq hq'=>?_|refine spN fun hn=>?_|fail)
  exact ⟨(),trivial,by exact knA,by exact knA⟩
 rintro ⟨⟩ ν1 -
 try refine aws_seq ?_
 refine aws_mid (fun b:Bool × Bool × Bool × Bool=>b.1=idI x∧b.2.1=keI x∧b.2.2.1=opI x∧b.2.2.2=drI x) (fun b=>[(1,.o (.ptr 1 0 0)),(3,.p (.b b.1)),(4,.p (.b b.2.1)),(5,.p (.b b.2.2.1)),(6,.p (.b b.2.2.2)),(7,.p (.b S))]) (fun _=>[(1,(1,some (.box 88 (iC x M))))]) ?_ ?_
 ·repeat' (first|refine jx23 ?_|refine jy0 ?_ ?_|exact spF|refine spQ fun hq hq'=>?_|refine spN fun hn=>?_|fail)
  exact ⟨(_,_,_,_),⟨rfl,rfl,op_eq x.op (0,0,0),decide_eq_decide.2 (show ((x.draw:Int)=0)↔x.draw=0 by omega)⟩,by exact knA,by exact knA⟩
 rintro ⟨i,k,o,d⟩ ν2 ⟨hi,hk,ho,hd⟩
 dsimp only at hi hk ho hd ⊢
 try refine aws_seq ?_
 refine aws_mid (fun b:Bool=>b=A) (fun b=>[(1,.o (.ptr 1 0 0)),(3,.p (.b i)),(4,.p (.b k)),(5,.p (.b o)),(6,.p (.b d)),(7,.p (.b S)),(8,.p (.b b))]) (fun _=>[(1,(1,some (.box 88 (iC x M))))]) ?_ ?_
 ·rw [hA]
  unfold cliF
  generalize keyR x.key=KR at c3
  haveI i3:PC Tryz.prog 115 [.p (.v (.string (strOf x.key)))] True (.p (.b KR)):=⟨fun _=>c3⟩
  clear hi hk ho hd hS hR hY hA c3
  rw [show decide (1≤x.id)=decide (0 < x.id) from decide_eq_decide.2 (by omega)]
  cases h1:decide (0 < x.id) with
  | false=>
   rw [Bool.false_and]
   as_aux_lemma=>
    repeat' (first|refine jx24 ?_|refine jy0 ?_ ?_|exact spF|refine spQ fun hq hq'=>?_|refine spN fun hn=>?_|fail)
    exact ⟨_,rfl,by exact knA,by exact knA⟩
  | true=>
   rw [Bool.true_and]
   cases h2:decide (x.id≤1099511627776) with
   | false=>
    rw [Bool.false_and]
    as_aux_lemma=>
     repeat' (first|refine jx24 ?_|refine jy0 ?_ ?_|exact spF|refine spQ fun hq hq'=>?_|refine spN fun hn=>?_|fail)
     exact ⟨_,rfl,by exact knA,by exact knA⟩
   | true=>
    rw [Bool.true_and]
    as_aux_lemma=>
     repeat' (first|refine jx24 ?_|refine jy0 ?_ ?_|exact spF|refine spQ fun hq hq'=>?_|refine spN fun hn=>?_|fail)
     exact ⟨_,rfl,by exact knA,by exact knA⟩
 intro b ν3 hb
 rw [hb]
 clear hb c3
 have q1:¬ x.kind=1:=by have:=hq.v;omega
 have d1:decide (x.kind=1)=false:=decide_eq_false q1
 have q2:¬ x.kind=2:=by have:=hq.v;omega
 have d2:decide (x.kind=2)=false:=decide_eq_false q2
 by_cases q3:x.kind=3
 ·have d3:decide (x.kind=3)=true:=decide_eq_true q3
  rw [show refI x=(i&&(k&&(o&&(d&&S)))) by simp only [hi,hk,ho,hd,hS];simp [refI,q3]]
  clear hi hk ho hd hS hR hY hA
  as_aux_lemma=>
   repeat' (first|refine jx24 ?_|refine jy0 ?_ ?_|exact spF|refine spQ fun hq hq'=>?_|refine spN fun hn=>?_|fail)
   all_goals exact rt1 rfl rfl finS_p (by simp [*])
 have d3:decide (x.kind=3)=false:=decide_eq_false q3
 by_cases q6:x.kind=6
 ·have d6:decide (x.kind=6)=true:=decide_eq_true q6
  rw [show refI x=(i&&(k&&(o&&(d&&S)))) by simp only [hi,hk,ho,hd,hS];simp [refI,q6]]
  clear hi hk ho hd hS hR hY hA
  as_aux_lemma=>
   repeat' (first|refine jx24 ?_|refine jy0 ?_ ?_|exact spF|refine spQ fun hq hq'=>?_|refine spN fun hn=>?_|fail)
   all_goals exact rt1 rfl rfl finS_p (by simp [*])
 have d6:decide (x.kind=6)=false:=decide_eq_false q6
 have q7:¬ x.kind=7:=by have:=hq.v;omega
 have d7:decide (x.kind=7)=false:=decide_eq_false q7
 have q8:¬ x.kind=8:=by have:=hq.v;omega
 have d8:decide (x.kind=8)=false:=decide_eq_false q8
 have q4:¬ x.kind=4:=by have:=hq.v;omega
 have d4:decide (x.kind=4)=false:=decide_eq_false q4
 have q5:¬ x.kind=5:=by have:=hq.v;omega
 have d5:decide (x.kind=5)=false:=decide_eq_false q5
 exact absurd hq.v (by omega)
theorem refRight30c_g (x:Inp) (M:List AC) [pM:PureL M] (hM:M.length=40) (S R:Bool) (kx:okB x.key) (kl:x.key.length≤1000000) (hS:S=msI x) (hR:R=rightM x.msg) (hq:KOf (x.kind=7∨x.kind=8)) (c1:PCall Tryz.prog 18 [.a M,.a zMC] (.p (.b S))) (c2:PCall Tryz.prog 16 [.a M] (.p (.b R))):PCall Tryz.prog 40 [.a (iC x M)] (.p (.b (refI x))):=by
 refine pcall_of Tryz.func40 rfl (fun w0 F S0 M0=>?_)
 have c3:=refKeyRight_w x.key kx kl
 have c4:=Go.Proofs.YtcbhmngagibhmaaGreat.Cq.may7_r x.op
 obtain ⟨Y,hY⟩:∃ Y,Y=mayF x.op:=⟨_,rfl⟩
 obtain ⟨A,hA⟩:∃ A,A=cliF x.id x.key:=⟨_,rfl⟩
 rw [← hY] at c4
 haveI i1:PC Tryz.prog 18 [.a M,.a zMC] True (.p (.b S)):=⟨fun _=>c1⟩
 haveI i2:PC Tryz.prog 16 [.a M] True (.p (.b R)):=⟨fun _=>c2⟩
 haveI i4:PC Tryz.prog 116 [.a [.p (.i x.op.1),.p (.i x.op.2.1),.p (.i x.op.2.2)]] True (.p (.b Y)):=⟨fun _=>c4⟩
 clear c1 c2 c4
 refine aws_seq ?_
 refine aws_mid (fun _:Unit=>True) (fun _=>[(1,.o (.ptr 1 0 0))]) (fun _=>[(1,(1,some (.box 88 (iC x M))))]) ?_ ?_
 ·repeat' (first|refine jx24 ?_|refine jy0 ?_ ?_|exact spF|refine spQ fun hq hq'=>?_|refine spN fun hn=>?_|fail)
  exact ⟨(),trivial,by exact knA,by exact knA⟩
 rintro ⟨⟩ ν1 -
 try refine aws_seq ?_
 refine aws_mid (fun b:Bool × Bool × Bool × Bool=>b.1=idI x∧b.2.1=keI x∧b.2.2.1=opI x∧b.2.2.2=drI x) (fun b=>[(1,.o (.ptr 1 0 0)),(3,.p (.b b.1)),(4,.p (.b b.2.1)),(5,.p (.b b.2.2.1)),(6,.p (.b b.2.2.2)),(7,.p (.b S))]) (fun _=>[(1,(1,some (.box 88 (iC x M))))]) ?_ ?_
 ·repeat' (first|refine jx23 ?_|refine jy0 ?_ ?_|exact spF|refine spQ fun hq hq'=>?_|refine spN fun hn=>?_|fail)
  exact ⟨(_,_,_,_),⟨rfl,rfl,op_eq x.op (0,0,0),decide_eq_decide.2 (show ((x.draw:Int)=0)↔x.draw=0 by omega)⟩,by exact knA,by exact knA⟩
 rintro ⟨i,k,o,d⟩ ν2 ⟨hi,hk,ho,hd⟩
 dsimp only at hi hk ho hd ⊢
 try refine aws_seq ?_
 refine aws_mid (fun b:Bool=>b=A) (fun b=>[(1,.o (.ptr 1 0 0)),(3,.p (.b i)),(4,.p (.b k)),(5,.p (.b o)),(6,.p (.b d)),(7,.p (.b S)),(8,.p (.b b))]) (fun _=>[(1,(1,some (.box 88 (iC x M))))]) ?_ ?_
 ·rw [hA]
  unfold cliF
  generalize keyR x.key=KR at c3
  haveI i3:PC Tryz.prog 115 [.p (.v (.string (strOf x.key)))] True (.p (.b KR)):=⟨fun _=>c3⟩
  clear hi hk ho hd hS hR hY hA c3
  rw [show decide (1≤x.id)=decide (0 < x.id) from decide_eq_decide.2 (by omega)]
  cases h1:decide (0 < x.id) with
  | false=>
   rw [Bool.false_and]
   as_aux_lemma=>
    repeat' (first|refine jx24 ?_|refine jy0 ?_ ?_|exact spF|refine spQ fun hq hq'=>?_|refine spN fun hn=>?_|fail)
    exact ⟨_,rfl,by exact knA,by exact knA⟩
  | true=>
   rw [Bool.true_and]
   cases h2:decide (x.id≤1099511627776) with
   | false=>
    rw [Bool.false_and]
    as_aux_lemma=>
     repeat' (first|refine jx24 ?_|refine jy0 ?_ ?_|exact spF|refine spQ fun hq hq'=>?_|refine spN fun hn=>?_|fail)
     exact ⟨_,rfl,by exact knA,by exact knA⟩
   | true=>
    rw [Bool.true_and]
    as_aux_lemma=>
     repeat' (first|refine jx24 ?_|refine jy0 ?_ ?_|exact spF|refine spQ fun hq hq'=>?_|refine spN fun hn=>?_|fail)
     exact ⟨_,rfl,by exact knA,by exact knA⟩
 intro b ν3 hb
 rw [hb]
 clear hb c3
 have q1:¬ x.kind=1:=by have:=hq.v;omega
 have d1:decide (x.kind=1)=false:=decide_eq_false q1
 have q2:¬ x.kind=2:=by have:=hq.v;omega
 have d2:decide (x.kind=2)=false:=decide_eq_false q2
 have q3:¬ x.kind=3:=by have:=hq.v;omega
 have d3:decide (x.kind=3)=false:=decide_eq_false q3
 have q6:¬ x.kind=6:=by have:=hq.v;omega
 have d6:decide (x.kind=6)=false:=decide_eq_false q6
 by_cases q7:x.kind=7
 ·have d7:decide (x.kind=7)=true:=decide_eq_true q7
  rw [show refI x=(i&&(k&&(o&&(d&&S)))) by simp only [hi,hk,ho,hd,hS];simp [refI,q7]]
  clear hi hk ho hd hS hR hY hA
  as_aux_lemma=>
   repeat' (first|refine jx24 ?_|refine jy0 ?_ ?_|exact spF|refine spQ fun hq hq'=>?_|refine spN fun hn=>?_|fail)
   all_goals exact rt1 rfl rfl finS_p (by simp [*])
 have d7:decide (x.kind=7)=false:=decide_eq_false q7
 by_cases q8:x.kind=8
 ·have d8:decide (x.kind=8)=true:=decide_eq_true q8
  rw [show refI x=(i&&(k&&(o&&(d&&S)))) by simp only [hi,hk,ho,hd,hS];simp [refI,q8]]
  clear hi hk ho hd hS hR hY hA
  as_aux_lemma=>
   repeat' (first|refine jx24 ?_|refine jy0 ?_ ?_|exact spF|refine spQ fun hq hq'=>?_|refine spN fun hn=>?_|fail)
   all_goals exact rt1 rfl rfl finS_p (by simp [*])
 have d8:decide (x.kind=8)=false:=decide_eq_false q8
 have q4:¬ x.kind=4:=by have:=hq.v;omega
 have d4:decide (x.kind=4)=false:=decide_eq_false q4
 have q5:¬ x.kind=5:=by have:=hq.v;omega
 have d5:decide (x.kind=5)=false:=decide_eq_false q5
 exact absurd hq.v (by omega)
theorem refRight30d_g (x:Inp) (M:List AC) [pM:PureL M] (hM:M.length=40) (S R:Bool) (kx:okB x.key) (kl:x.key.length≤1000000) (hS:S=msI x) (hR:R=rightM x.msg) (hq:KOf (x.kind=4∨x.kind=5)) (c1:PCall Tryz.prog 18 [.a M,.a zMC] (.p (.b S))) (c2:PCall Tryz.prog 16 [.a M] (.p (.b R))):PCall Tryz.prog 40 [.a (iC x M)] (.p (.b (refI x))):=by
 refine pcall_of Tryz.func40 rfl (fun w0 F S0 M0=>?_)
 have c3:=refKeyRight_w x.key kx kl
 have c4:=Go.Proofs.YtcbhmngagibhmaaGreat.Cq.may7_r x.op
 obtain ⟨Y,hY⟩:∃ Y,Y=mayF x.op:=⟨_,rfl⟩
 obtain ⟨A,hA⟩:∃ A,A=cliF x.id x.key:=⟨_,rfl⟩
 rw [← hY] at c4
 haveI i1:PC Tryz.prog 18 [.a M,.a zMC] True (.p (.b S)):=⟨fun _=>c1⟩
 haveI i2:PC Tryz.prog 16 [.a M] True (.p (.b R)):=⟨fun _=>c2⟩
 haveI i4:PC Tryz.prog 116 [.a [.p (.i x.op.1),.p (.i x.op.2.1),.p (.i x.op.2.2)]] True (.p (.b Y)):=⟨fun _=>c4⟩
 clear c1 c2 c4
 refine aws_seq ?_
 refine aws_mid (fun _:Unit=>True) (fun _=>[(1,.o (.ptr 1 0 0))]) (fun _=>[(1,(1,some (.box 88 (iC x M))))]) ?_ ?_
 ·repeat' (first|refine jx24 ?_|refine jy0 ?_ ?_|exact spF|refine spQ fun hq hq'=>?_|refine spN fun hn=>?_|fail)
  exact ⟨(),trivial,by exact knA,by exact knA⟩
 rintro ⟨⟩ ν1 -
 try refine aws_seq ?_
 refine aws_mid (fun b:Bool × Bool × Bool × Bool=>b.1=idI x∧b.2.1=keI x∧b.2.2.1=opI x∧b.2.2.2=drI x) (fun b=>[(1,.o (.ptr 1 0 0)),(3,.p (.b b.1)),(4,.p (.b b.2.1)),(5,.p (.b b.2.2.1)),(6,.p (.b b.2.2.2)),(7,.p (.b S))]) (fun _=>[(1,(1,some (.box 88 (iC x M))))]) ?_ ?_
 ·repeat' (first|refine jx23 ?_|refine jy0 ?_ ?_|exact spF|refine spQ fun hq hq'=>?_|refine spN fun hn=>?_|fail)
  exact ⟨(_,_,_,_),⟨rfl,rfl,op_eq x.op (0,0,0),decide_eq_decide.2 (show ((x.draw:Int)=0)↔x.draw=0 by omega)⟩,by exact knA,by exact knA⟩
 rintro ⟨i,k,o,d⟩ ν2 ⟨hi,hk,ho,hd⟩
 dsimp only at hi hk ho hd ⊢
 try refine aws_seq ?_
 refine aws_mid (fun b:Bool=>b=A) (fun b=>[(1,.o (.ptr 1 0 0)),(3,.p (.b i)),(4,.p (.b k)),(5,.p (.b o)),(6,.p (.b d)),(7,.p (.b S)),(8,.p (.b b))]) (fun _=>[(1,(1,some (.box 88 (iC x M))))]) ?_ ?_
 ·rw [hA]
  unfold cliF
  generalize keyR x.key=KR at c3
  haveI i3:PC Tryz.prog 115 [.p (.v (.string (strOf x.key)))] True (.p (.b KR)):=⟨fun _=>c3⟩
  clear hi hk ho hd hS hR hY hA c3
  rw [show decide (1≤x.id)=decide (0 < x.id) from decide_eq_decide.2 (by omega)]
  cases h1:decide (0 < x.id) with
  | false=>
   rw [Bool.false_and]
   as_aux_lemma=>
    repeat' (first|refine jx24 ?_|refine jy0 ?_ ?_|exact spF|refine spQ fun hq hq'=>?_|refine spN fun hn=>?_|fail)
    exact ⟨_,rfl,by exact knA,by exact knA⟩
  | true=>
   rw [Bool.true_and]
   cases h2:decide (x.id≤1099511627776) with
   | false=>
    rw [Bool.false_and]
    as_aux_lemma=>
     repeat' (first|refine jx24 ?_|refine jy0 ?_ ?_|exact spF|refine spQ fun hq hq'=>?_|refine spN fun hn=>?_|fail)
     exact ⟨_,rfl,by exact knA,by exact knA⟩
   | true=>
    rw [Bool.true_and]
    as_aux_lemma=>
     repeat' (first|refine jx24 ?_|refine jy0 ?_ ?_|exact spF|refine spQ fun hq hq'=>?_|refine spN fun hn=>?_|fail)
     exact ⟨_,rfl,by exact knA,by exact knA⟩
 intro b ν3 hb
 rw [hb]
 clear hb c3
 have q1:¬ x.kind=1:=by have:=hq.v;omega
 have d1:decide (x.kind=1)=false:=decide_eq_false q1
 have q2:¬ x.kind=2:=by have:=hq.v;omega
 have d2:decide (x.kind=2)=false:=decide_eq_false q2
 have q3:¬ x.kind=3:=by have:=hq.v;omega
 have d3:decide (x.kind=3)=false:=decide_eq_false q3
 have q6:¬ x.kind=6:=by have:=hq.v;omega
 have d6:decide (x.kind=6)=false:=decide_eq_false q6
 have q7:¬ x.kind=7:=by have:=hq.v;omega
 have d7:decide (x.kind=7)=false:=decide_eq_false q7
 have q8:¬ x.kind=8:=by have:=hq.v;omega
 have d8:decide (x.kind=8)=false:=decide_eq_false q8
 by_cases q4:x.kind=4
 ·have d4:decide (x.kind=4)=true:=decide_eq_true q4
  rw [show refI x=(i&&(k&&(o&&S))) by simp only [hi,hk,ho,hS];simp [refI,q4]]
  clear hi hk ho hd hS hR hY hA
  as_aux_lemma=>
   repeat' (first|refine jx24 ?_|refine jy0 ?_ ?_|exact spF|refine spQ fun hq hq'=>?_|refine spN fun hn=>?_|fail)
   all_goals exact rt1 rfl rfl finS_p (by simp [*])
 have d4:decide (x.kind=4)=false:=decide_eq_false q4
 by_cases q5:x.kind=5
 ·have d5:decide (x.kind=5)=true:=decide_eq_true q5
  rw [show refI x=(i&&(k&&(o&&(d&&R)))) by simp only [hi,hk,ho,hd,hR];simp [refI,q5]]
  clear hi hk ho hd hS hR hY hA
  as_aux_lemma=>
   repeat' (first|refine jx24 ?_|refine jy0 ?_ ?_|exact spF|refine spQ fun hq hq'=>?_|refine spN fun hn=>?_|fail)
   all_goals exact rt1 rfl rfl finS_p (by simp [*])
 have d5:decide (x.kind=5)=false:=decide_eq_false q5
 exact absurd hq.v (by omega)
theorem refRight30e_g (x:Inp) (M:List AC) [pM:PureL M] (hM:M.length=40) (S R:Bool) (kx:okB x.key) (kl:x.key.length≤1000000) (hS:S=msI x) (hR:R=rightM x.msg) (hq:KOf (x.kind≠1∧x.kind≠2∧x.kind≠3∧x.kind≠6∧x.kind≠7∧x.kind≠8∧x.kind≠4∧x.kind≠5)) (c1:PCall Tryz.prog 18 [.a M,.a zMC] (.p (.b S))) (c2:PCall Tryz.prog 16 [.a M] (.p (.b R))):PCall Tryz.prog 40 [.a (iC x M)] (.p (.b (refI x))):=by
 refine pcall_of Tryz.func40 rfl (fun w0 F S0 M0=>?_)
 have c3:=refKeyRight_w x.key kx kl
 have c4:=Go.Proofs.YtcbhmngagibhmaaGreat.Cq.may7_r x.op
 obtain ⟨Y,hY⟩:∃ Y,Y=mayF x.op:=⟨_,rfl⟩
 obtain ⟨A,hA⟩:∃ A,A=cliF x.id x.key:=⟨_,rfl⟩
 rw [← hY] at c4
 haveI i1:PC Tryz.prog 18 [.a M,.a zMC] True (.p (.b S)):=⟨fun _=>c1⟩
 haveI i2:PC Tryz.prog 16 [.a M] True (.p (.b R)):=⟨fun _=>c2⟩
 haveI i4:PC Tryz.prog 116 [.a [.p (.i x.op.1),.p (.i x.op.2.1),.p (.i x.op.2.2)]] True (.p (.b Y)):=⟨fun _=>c4⟩
 clear c1 c2 c4
 refine aws_seq ?_
 refine aws_mid (fun _:Unit=>True) (fun _=>[(1,.o (.ptr 1 0 0))]) (fun _=>[(1,(1,some (.box 88 (iC x M))))]) ?_ ?_
 ·repeat' (first|refine jx24 ?_|refine jy0 ?_ ?_|exact spF|refine spQ fun hq hq'=>?_|refine spN fun hn=>?_|fail)
  exact ⟨(),trivial,by exact knA,by exact knA⟩
 rintro ⟨⟩ ν1 -
 try refine aws_seq ?_
 refine aws_mid (fun b:Bool × Bool × Bool × Bool=>b.1=idI x∧b.2.1=keI x∧b.2.2.1=opI x∧b.2.2.2=drI x) (fun b=>[(1,.o (.ptr 1 0 0)),(3,.p (.b b.1)),(4,.p (.b b.2.1)),(5,.p (.b b.2.2.1)),(6,.p (.b b.2.2.2)),(7,.p (.b S))]) (fun _=>[(1,(1,some (.box 88 (iC x M))))]) ?_ ?_
 ·repeat' (first|refine jx23 ?_|refine jy0 ?_ ?_|exact spF|refine spQ fun hq hq'=>?_|refine spN fun hn=>?_|fail)
  exact ⟨(_,_,_,_),⟨rfl,rfl,op_eq x.op (0,0,0),decide_eq_decide.2 (show ((x.draw:Int)=0)↔x.draw=0 by omega)⟩,by exact knA,by exact knA⟩
 rintro ⟨i,k,o,d⟩ ν2 ⟨hi,hk,ho,hd⟩
 dsimp only at hi hk ho hd ⊢
 try refine aws_seq ?_
 refine aws_mid (fun b:Bool=>b=A) (fun b=>[(1,.o (.ptr 1 0 0)),(3,.p (.b i)),(4,.p (.b k)),(5,.p (.b o)),(6,.p (.b d)),(7,.p (.b S)),(8,.p (.b b))]) (fun _=>[(1,(1,some (.box 88 (iC x M))))]) ?_ ?_
 ·rw [hA]
  unfold cliF
  generalize keyR x.key=KR at c3
  haveI i3:PC Tryz.prog 115 [.p (.v (.string (strOf x.key)))] True (.p (.b KR)):=⟨fun _=>c3⟩
  clear hi hk ho hd hS hR hY hA c3
  rw [show decide (1≤x.id)=decide (0 < x.id) from decide_eq_decide.2 (by omega)]
  cases h1:decide (0 < x.id) with
  | false=>
   rw [Bool.false_and]
   as_aux_lemma=>
    repeat' (first|refine jx24 ?_|refine jy0 ?_ ?_|exact spF|refine spQ fun hq hq'=>?_|refine spN fun hn=>?_|fail)
    exact ⟨_,rfl,by exact knA,by exact knA⟩
  | true=>
   rw [Bool.true_and]
   cases h2:decide (x.id≤1099511627776) with
   | false=>
    rw [Bool.false_and]
    as_aux_lemma=>
     repeat' (first|refine jx24 ?_|refine jy0 ?_ ?_|exact spF|refine spQ fun hq hq'=>?_|refine spN fun hn=>?_|fail)
     exact ⟨_,rfl,by exact knA,by exact knA⟩
   | true=>
    rw [Bool.true_and]
    as_aux_lemma=>
     repeat' (first|refine jx24 ?_|refine jy0 ?_ ?_|exact spF|refine spQ fun hq hq'=>?_|refine spN fun hn=>?_|fail)
     exact ⟨_,rfl,by exact knA,by exact knA⟩
 intro b ν3 hb
 rw [hb]
 clear hb c3
 have q1:¬ x.kind=1:=by have:=hq.v;omega
 have d1:decide (x.kind=1)=false:=decide_eq_false q1
 have q2:¬ x.kind=2:=by have:=hq.v;omega
 have d2:decide (x.kind=2)=false:=decide_eq_false q2
 have q3:¬ x.kind=3:=by have:=hq.v;omega
 have d3:decide (x.kind=3)=false:=decide_eq_false q3
 have q6:¬ x.kind=6:=by have:=hq.v;omega
 have d6:decide (x.kind=6)=false:=decide_eq_false q6
 have q7:¬ x.kind=7:=by have:=hq.v;omega
 have d7:decide (x.kind=7)=false:=decide_eq_false q7
 have q8:¬ x.kind=8:=by have:=hq.v;omega
 have d8:decide (x.kind=8)=false:=decide_eq_false q8
 have q4:¬ x.kind=4:=by have:=hq.v;omega
 have d4:decide (x.kind=4)=false:=decide_eq_false q4
 have q5:¬ x.kind=5:=by have:=hq.v;omega
 have d5:decide (x.kind=5)=false:=decide_eq_false q5
 rw [show refI x=false by unfold refI;rw [if_neg q1,if_neg q2,if_neg (by omega),if_neg q4,if_neg q5]]
 clear hi hk ho hd hS hR hY hA
 as_aux_lemma=>
  repeat' (first|refine jx24 ?_|refine jy0 ?_ ?_|exact spF|refine spQ fun hq hq'=>?_|refine spN fun hn=>?_|fail)
  exact rt1 rfl rfl finS_p rfl
theorem refRight30_g (x:Inp) (M:List AC) [pM:PureL M] (hM:M.length=40) (S R:Bool) (kx:okB x.key) (kl:x.key.length≤1000000) (hS:S=msI x) (hR:R=rightM x.msg) (c1:PCall Tryz.prog 18 [.a M,.a zMC] (.p (.b S))) (c2:PCall Tryz.prog 16 [.a M] (.p (.b R))):PCall Tryz.prog 40 [.a (iC x M)] (.p (.b (refI x))):=by
 by_cases ha:x.kind=1∨x.kind=2
 ·exact refRight30a_g x M hM S R kx kl hS hR ⟨ha⟩ c1 c2
 by_cases hb:x.kind=3∨x.kind=6
 ·exact refRight30b_g x M hM S R kx kl hS hR ⟨hb⟩ c1 c2
 by_cases hc:x.kind=7∨x.kind=8
 ·exact refRight30c_g x M hM S R kx kl hS hR ⟨hc⟩ c1 c2
 by_cases hd:x.kind=4∨x.kind=5
 ·exact refRight30d_g x M hM S R kx kl hS hR ⟨hd⟩ c1 c2
 exact refRight30e_g x M hM S R kx kl hS hR ⟨by omega⟩ c1 c2
theorem refRight30_w (x:Inp) (h:MIn x.msg) (kx:okB x.key) (kl:x.key.length≤1000000):PCall Tryz.prog 40 [iV x] (.p (.b (rightI x))):=by
 rw [right_refI]
 have c1:=(refSame26_w x.msg zeroM h zeroM_in).ent (.cons Ent1.refl (.cons (ent_m PE.nil PE.nil PE.nil) .nil))
 exact refRight30_g x _ (mL_len h.d32) _ _ kx kl rfl rfl c1 (refRight26_w x.msg h)
end Go.Proofs.YtcbhmngagibhmaaGreat.Wi
