/- messages, the reference: read -/
import Derived.Test.YtcbhmngagibhmaaGreatPRA41
import Derived.Test.YtcbhmngagibhmaaGreatPRA33
namespace Go.Proofs.YtcbhmngagibhmaaGreat.Wi
open Go Go.RowKit Go.Aw Go.Aw.Cart Go.Aw.Tree Go.Proofs.YtcbhmngagibhmaaGreat.Ca Go.Proofs.YtcbhmngagibhmaaGreat.Rg
set_option linter.unusedVariables false
set_option linter.unusedSimpArgs false
set_option maxRecDepth 8000
set_option maxHeartbeats 4000000
theorem lop_build1m {C:Ctx} {o:Oper} {σ:St} {T:TypeId} {x0:Operand} {p0:PVal} {fs:List (Nat × Nat)} {z:List Value} (ho:o.op=.build T #[(0,x0)]) (hF:TF C.P T fs) (hz:TZ C.P T z) (g0:σ.look x0=.p p0) (h1:z.all (·.oneCell')=true)
  (hb:bfill (fun i=>fs[i]?) (z.map fun v=>.p (.v v)) [(0,[.p p0])]=some (.p p0::.p (.i 0)::.p (.i 0)::.p (.i 0)::.p (.i 0)::(zeroD.map bcD++[.p (.v (.slice none 0 0)),.p (.v (.slice none 0 0)),.p (.v (.slice none 0 0))]))) (hd:dOk C o.dst=true) :
  LOp C o σ ⟨.a (.p p0::.p (.i 0)::.p (.i 0)::.p (.i 0)::.p (.i 0)::(zeroD.map bcD++[.p (.v (.slice none 0 0)),.p (.v (.slice none 0 0)),.p (.v (.slice none 0 0))])),[]⟩ (fun _=>false):=lop_build1 ho hF hz g0 h1 hb hd
namespace R8
theorem lopC {C:Ctx} {o:Oper} {σ:St} {e:Eff} {ro:Nat→Bool} (h:LOp C o σ e ro:=by
  first|(apply lop_build1m;(focus rfl);(focus exact inferInstance);(focus exact inferInstance);(focus rfl);(focus decide);(focus rfl);(focus rfl))|exact T8.lopC|fail):LOp C o σ e ro:=h
section steps
variable {C:Ctx} {ops:Array Oper} {o:Oper} {rest:List Oper} {K:St→Prop} {σ:St} {e:Eff} {ro:Nat→Bool} {W:List (Nat × Nat)} {i:Nat}
theorem rnC {d:Nat} (hg:Guard ops σ o true:=by first|exact gd_n rfl rfl|exact gd_t rfl rfl rfl rfl|exact gd_t rfl rfl rfl (by assumption)) (hd:o.dst=some d:=by rfl) (h:LOp C o σ e ro:=by exact lopC) (hk:RunN C ops rest K (e.app (some d) σ)):RunN C ops (o::rest) K σ:=rn_any hg hd h hk
theorem rkC {d:Nat} (hg:Guard ops σ o true:=by first|exact gd_n rfl rfl|exact gd_t rfl rfl rfl rfl|exact gd_t rfl rfl rfl (by assumption)) (hd':o.dst=some d:=by rfl) (hd:dOk C o.dst=true:=by rfl) (h:LOp C o σ e ro:=by exact lopC) (hro:∀ x,ro x=true→okObj ops W i x=true:=by first|exact fun _=>ro_none|exact ro_one rfl|exact ro_k1 rfl|exact ro_one (by kernel_rfl)|exact ro_k1 (by kernel_rfl)|exact ro_kIn (by decide)) (hob:∀ p∈e.obj,(i,p.1)∈W:=by first|exact ob_none|exact ob_one (by decide)|decide) (hk:RunK C ops W (i+1) rest K (e.app (some d) σ)):RunK C ops W i (o::rest) K σ:=rk_wr hg hd' hd h hro hob hk
end steps
end R8
open R8
attribute [local irreducible] smallS digS lstS readL
theorem refRead26_w (b:List Nat) (hb:okB b) (hbl:b.length≤1000000000):PCall Tryz.prog 14 [.p (.sl 1 (b.map bR) false)] (.tup [.agg (mL (readM b).1),.one (.p (.b (decide ((readM b).2=0))))]):=by
 refine pcall_of Tryz.func14 rfl (fun w0 F S0 M0=>?_)
 obtain ⟨r0,hr0⟩:∃ r0:RS,r0=(b,0):=⟨_,rfl⟩
 have o0:RfOk b r0:=by rw [hr0];exact ⟨hb,List.suffix_refl _,hbl⟩
 obtain ⟨k,r1,h1⟩:=pr_ex (smallS 7 r0)
 have o1:RfOk b r1:=by have:=(par_small 7).rf o0;rwa [h1] at this
 obtain ⟨f,r2,h2⟩:=pr_ex (smallS 8 r1)
 have o2:RfOk b r2:=by have:=(par_small 8).rf o1;rwa [h2] at this
 obtain ⟨t,r3,h3⟩:=pr_ex (smallS 8 r2)
 have o3:RfOk b r3:=by have:=(par_small 8).rf o2;rwa [h3] at this
 obtain ⟨s,r4,h4⟩:=pr_ex (smallS 1099511627776 r3)
 have o4:RfOk b r4:=by have:=(par_small 1099511627776).rf o3;rwa [h4] at this
 obtain ⟨p,r5,h5⟩:=pr_ex (smallS 7 r4)
 have o5:RfOk b r5:=by have:=(par_small 7).rf o4;rwa [h5] at this
 obtain ⟨d,r6,h6⟩:=pr_ex (dgS k r5)
 have o6:RfOk b r6:=by have:=(par_dg k).rf o5;rwa [h6] at this
 have dfit:=dgS_fit k r5 ⟨o5.byte,o5.rd⟩
 rw [h6] at dfit
 dsimp only at dfit
 obtain ⟨d32,dok⟩:=dfit
 obtain ⟨a,ha⟩:=small_nat 16 r6
 obtain ⟨r7,h7⟩:∃ r7,(smallS 16 r6).2=r7:=⟨_,rfl⟩
 have e7:smallS 16 r6=((a:Int),r7):=Prod.ext ha h7
 have a16:=small_le (most:=16) (by decide) r6
 rw [ha] at a16
 have o7:RfOk b r7:=by rw [← h7];exact (par_small 16).rf o6
 obtain ⟨P,r8,e8⟩:=pr_ex (manyS (smallS 20) a r7)
 have o8:RfOk b r8:=by have:=(par_many (par_small 20) a).rf o7;rwa [e8] at this
 have lP:P.length≤16:=by have:=many_len (smallS 20) r7 a;rw [e8] at this;dsimp only at this;omega
 obtain ⟨c,hc⟩:=small_nat 16 r8
 obtain ⟨r9,h9⟩:∃ r9,(smallS 16 r8).2=r9:=⟨_,rfl⟩
 have e9:smallS 16 r8=((c:Int),r9):=Prod.ext hc h9
 have c16:=small_le (most:=16) (by decide) r8
 rw [hc] at c16
 have o9:RfOk b r9:=by rw [← h9];exact (par_small 16).rf o8
 obtain ⟨G,rA,eA⟩:=pr_ex (manyS digS c r9)
 have oA:RfOk b rA:=by have:=(par_many par_dig c).rf o9;rwa [eA] at this
 have lG:G.length≤16:=by have:=many_len digS r9 c;rw [eA] at this;dsimp only at this;omega
 have gG:∀ x∈G,x.length=32∧okB x:=by
  have:=many_all par_dig (Q:=fun x=>x.length=32∧okB x) (fun r hr=>⟨dig_len r,dig_ok r hr⟩) r9 ⟨o9.byte,o9.rd⟩ c
  rwa [eA] at this
 have hp:=preR_at h1 h2 h3 h4 h5 h6 (lstR_at e7 e8 e9 eA)
 rw [hr0] at hp
 have hrm:=readR_is hp
 clear hp
 try dsimp only at hrm
 rw [hrm]
 clear hrm
 have h32:(d.map bcD).length=32:=by rw [List.length_map];exact d32
 have z32:(zeroD.map bcD).length=32:=rfl
 haveI j1:∀ q g m:Nat,OC Tryz.prog 72 [.o (.ptr q g 0),.p (.i 7)] [(q,(m,some (.box 143 [.p (.sl 1 (b.map bR) false),.p (.i 0),.p (.i 0)])))] [] (m=g+1) (.p (.i k)) [(q,(m,some (rfM b r1)))]:=fun q g m=>⟨fun h=>by
  obtain rfl:=h
  have:=(rfsmall_o g b r0 7 (by decide) (by decide) o0).one q
  rw [h1,hr0] at this
  unfold rfM at this
  rw [atI_0] at this
  exact this⟩
 haveI j2:∀ q g m:Nat,OC Tryz.prog 72 [.o (.ptr q g 0),.p (.i 8)] [(q,(m,some (rfM b r1)))] [] (m=g+1) (.p (.i f)) [(q,(m,some (rfM b r2)))]:=fun q g m=>⟨fun h=>by obtain rfl:=h;have:=(rfsmall_o g b r1 8 (by decide) (by decide) o1).one q;rwa [h2] at this⟩
 haveI j3:∀ q g m:Nat,OC Tryz.prog 72 [.o (.ptr q g 0),.p (.i 8)] [(q,(m,some (rfM b r2)))] [] (m=g+1) (.p (.i t)) [(q,(m,some (rfM b r3)))]:=fun q g m=>⟨fun h=>by obtain rfl:=h;have:=(rfsmall_o g b r2 8 (by decide) (by decide) o2).one q;rwa [h3] at this⟩
 haveI j4:∀ q g m:Nat,OC Tryz.prog 72 [.o (.ptr q g 0),.p (.i 1099511627776)] [(q,(m,some (rfM b r3)))] [] (m=g+1) (.p (.i s)) [(q,(m,some (rfM b r4)))]:=fun q g m=>⟨fun h=>by obtain rfl:=h;have:=(rfsmall_o g b r3 1099511627776 (by decide) (by decide) o3).one q;rwa [h4] at this⟩
 haveI j5:∀ q g m:Nat,OC Tryz.prog 72 [.o (.ptr q g 0),.p (.i 7)] [(q,(m,some (rfM b r4)))] [] (m=g+1) (.p (.i p)) [(q,(m,some (rfM b r5)))]:=fun q g m=>⟨fun h=>by obtain rfl:=h;have:=(rfsmall_o g b r4 7 (by decide) (by decide) o4).one q;rwa [h5] at this⟩
 haveI j7:∀ q g m:Nat,OC Tryz.prog 72 [.o (.ptr q g 0),.p (.i 16)] [(q,(m,some (rfM b r6)))] [] (m=g+1) (.p (.i (a:Int))) [(q,(m,some (rfM b r7)))]:=fun q g m=>⟨fun h=>by obtain rfl:=h;have:=(rfsmall_o g b r6 16 (by decide) (by decide) o6).one q;rwa [e7] at this⟩
 haveI j9:∀ q g m:Nat,OC Tryz.prog 72 [.o (.ptr q g 0),.p (.i 16)] [(q,(m,some (rfM b r8)))] [] (m=g+1) (.p (.i (c:Int))) [(q,(m,some (rfM b r9)))]:=fun q g m=>⟨fun h=>by obtain rfl:=h;have:=(rfsmall_o g b r8 16 (by decide) (by decide) o8).one q;rwa [e9] at this⟩
 clear h1 h2 h3 h4 h5 ha h7 e7 hc h9 e9 o0 o1 o2 o3 o4 o6 o8 hr0
 repeat' (first|refine jx14 ?_|fail)
 refine aws_mid (fun _:Unit=>True) (fun _=>[(0,.p (.sl 1 (b.map bR) false)),(4,.o (.ptr 13 0 0)),(5,.o (.ptr 5 0 0)),(2,.o (.ptr 2 0 0))]) (fun _=>[(13,(1,some (rfM b r6))),(5,(1,some (.box 34 (.p (.i k)::.p (.i f)::.p (.i t)::.p (.i s)::.p (.i p)::(d.map bcD++[.p (.v (.slice none 0 0)),.p (.v (.slice none 0 0)),.p (.v (.slice none 0 0))]))))),(2,(1,some (.box 34 (.p (.i 0)::.p (.i 0)::.p (.i 0)::.p (.i 0)::.p (.i 0)::(zeroD.map bcD++[.p (.v (.slice none 0 0)),.p (.v (.slice none 0 0)),.p (.v (.slice none 0 0))]))))),(901,(0,none)),(902,(0,none))]) ?_ ?_
 ·by_cases q1:k=1
  ·have d1:decide (k=1)=true:=decide_eq_true q1
   have e:dgS k r5=digS r5:=by unfold dgS;rw [if_pos q1]
   rw [e] at h6
   haveI j6:∀ q g m:Nat,OC Tryz.prog 73 [.o (.ptr q g 0)] [(q,(m,some (rfM b r5)))] [] (m=g+1) (dgV d) [(q,(m,some (rfM b r6)))]:=fun q g m=>⟨fun h=>by obtain rfl:=h;have:=(rfdig_o g b r5 o5).one q;rw [ren_dgV,h6] at this;exact this⟩
   clear h6 e o5
   as_aux_lemma=>
    repeat' (first|refine jx14 ?_|refine jy0 ?_ ?_|exact spF|refine spQ fun hq hq'=>?_|refine spN fun hn=>?_|fail)
    exact ⟨(),trivial,by exact knA,by exact knA⟩
  ·have d1:decide (k=1)=false:=decide_eq_false q1
   have e:dgS k r5=(zeroD,r5):=by unfold dgS;rw [if_neg q1];rfl
   rw [e] at h6
   obtain ⟨rfl,rfl⟩:=Prod.mk.inj h6
   clear h6 e o5
   as_aux_lemma=>
    repeat' (first|refine jx14 ?_|refine jy0 ?_ ?_|exact spF|refine spQ fun hq hq'=>?_|refine spN fun hn=>?_|fail)
    exact ⟨(),trivial,by exact knA,by exact knA⟩
 rintro ⟨⟩ ν -
 clear h6 o5 j1 j2 j3 j4 j5
 repeat' (first|refine jx22 ?_|fail)
 refine aws_says (says_nil_at (p:=5) (k:=0+37) (o:=901) (ty:=3) (es:=1) rfl (mc37 h32) (ms37 h32) rfl (by decide) (by decide)) ?_
 refine aws_mid (fun _:Nat=>True) (fun g=>[(0,.p (.sl 1 (b.map bR) false)),(4,.o (.ptr 13 0 0)),(5,.o (.ptr 5 0 0)),(2,.o (.ptr 2 0 0))]) (fun g=>[(13,(1,some (rfM b r8))),(5,(1,some (.box 34 (.p (.i k)::.p (.i f)::.p (.i t)::.p (.i s)::.p (.i p)::(d.map bcD++[.osl 901 g 1 0 P.length,.p (.v (.slice none 0 0)),.p (.v (.slice none 0 0))]))))),(901,(g+1,some (.buf 3 1 (P.map iRw)))),(2,(1,some (.box 34 (.p (.i 0)::.p (.i 0)::.p (.i 0)::.p (.i 0)::.p (.i 0)::(zeroD.map bcD++[.p (.v (.slice none 0 0)),.p (.v (.slice none 0 0)),.p (.v (.slice none 0 0))]))))),(902,(0,none))]) ?_ ?_
 ·refine aws_loopS [7,37,38,39,40,41,42,43,44,45,46,47,48,49,50,51,52,53,54,55] [13,5,901] (fun (x:Nat × List Int × RS)=>[(7,.p (.i x.1))]) (fun x=>[(13,(1,some (rfM b x.2.2))),(5,(1,some (.box 34 (.p (.i k)::.p (.i f)::.p (.i t)::.p (.i s)::.p (.i p)::(d.map bcD++[.osl 901 x.1 1 0 x.2.1.length,.p (.v (.slice none 0 0)),.p (.v (.slice none 0 0))]))))),(901,(x.1+1,some (.buf 3 1 (x.2.1.map iRw))))])
   (fun x=>x.1≤a∧manyS (smallS 20) x.1 r7=(x.2.1,x.2.2)) (fun x=>a - x.1) (0,[],r7) ⟨Nat.zero_le _,rfl⟩ (by exact knA) (by exact knA) ?_
  rintro ⟨i,L,q⟩ β γ ⟨hi,hL⟩
  dsimp only at hi hL ⊢
  have hll:L.length≤16:=by have:=many_len (smallS 20) r7 i;rw [hL] at this;dsimp only at this;omega
  have oq:RfOk b q:=by have:=(par_many (par_small 20) i).rf o7;rwa [hL] at this
  by_cases hia:i < a
  ·have d1:decide ((i:Int) < (a:Int))=true:=decide_eq_true (by omega)
   by_cases hq:q.2=0
   ·have d2:decide (q.2=0)=true:=decide_eq_true hq
    obtain ⟨x,q1,ex⟩:=pr_ex (smallS 20 q)
    have hn:manyS (smallS 20) (i+1) r7=(L++[x],q1):=by rw [manyS,hL,if_pos hq,ex]
    haveI i3:∀ q' g m:Nat,OC Tryz.prog 72 [.o (.ptr q' g 0),.p (.i 20)] [(q',(m,some (rfM b q)))] [] (m=g+1) (.p (.i x)) [(q',(m,some (rfM b q1)))]:=fun q' g m=>⟨fun h=>by obtain rfl:=h;have:=(rfsmall_o g b q 20 (by decide) (by decide) oq).one q';rwa [ex] at this⟩
    clear ex oq hL j7 j9
    repeat' (first|refine jx14 ?_|refine jy0 ?_ ?_|exact spF|refine spQ fun hq hq'=>?_|refine spN fun hn=>?_|fail)
    refine aws_draws [(3,13),(5,901),(7,5)] mixed (by kernel_rfl) ?_
    repeat' (first|refine jx15 ?_|refine jy1 ?_ ?_|exact spF|refine spQ fun hq hq'=>?_|fail)
    as_aux_lemma=>
     repeat' (first|refine jx14 ?_|refine jy0 ?_ ?_|exact spF|refine spQ fun hq hq'=>?_|refine spN fun hn=>?_|fail)
     exact ⟨(i+1,L++[x],q1),_,by dsimp only;omega,⟨by dsimp only;omega,hn⟩,.refl,by exact frA⟩
   ·have d2:decide (q.2=0)=false:=decide_eq_false hq
    have hm:manyS (smallS 20) a r7=(L,q):=by
     have:=many_bad (P:=smallS 20) r7 (k:=i) (by rw [hL];exact hq) (a - i)
     rw [show i+(a - i)=a by omega] at this
     rw [this,hL]
    rw [e8] at hm
    obtain ⟨rfl,rfl⟩:=Prod.mk.inj hm
    clear hL hm oq j7 j9
    as_aux_lemma=>
     repeat' (first|refine jx14 ?_|refine jy0 ?_ ?_|exact spF|refine spQ fun hq hq'=>?_|refine spN fun hn=>?_|fail)
     exact ⟨_,trivial,by exact knA,by exact knA⟩
  ·have d1:decide ((i:Int) < (a:Int))=false:=decide_eq_false (by omega)
   obtain rfl:i=a:=by omega
   rw [e8] at hL
   obtain ⟨rfl,rfl⟩:=Prod.mk.inj hL
   clear hL oq j7 j9
   as_aux_lemma=>
    repeat' (first|refine jx14 ?_|refine jy0 ?_ ?_|exact spF|refine spQ fun hq hq'=>?_|refine spN fun hn=>?_|fail)
    exact ⟨_,trivial,by exact knA,by exact knA⟩
 rintro g1 ν2 -
 clear j7 o7 e8
 refine aws_says (says_frz_at (p:=5) (k:=0+37) (o:=901) rfl (mc37 h32) (ms37 h32) rfl rfl (by rw [List.length_map]) (by decide)) ?_
 repeat' (first|refine jx22 ?_|fail)
 refine aws_says (says_nil_at (p:=5) (k:=0+38) (o:=902) (ty:=23) (es:=32) rfl (mc38 h32) (ms38 h32) rfl (by decide) (by decide)) ?_
 refine aws_mid (fun _:Nat=>True) (fun g=>[(0,.p (.sl 1 (b.map bR) false)),(4,.o (.ptr 13 0 0)),(5,.o (.ptr 5 0 0)),(2,.o (.ptr 2 0 0))]) (fun g=>[(13,(1,some (rfM b rA))),(5,(1,some (.box 34 (.p (.i k)::.p (.i f)::.p (.i t)::.p (.i s)::.p (.i p)::(d.map bcD++[.p (.sl 1 (P.map iRw) false),.osl 902 g 32 0 G.length,.p (.v (.slice none 0 0))]))))),(902,(g+1,some (.buf 23 32 (G.map dRw)))),(2,(1,some (.box 34 (.p (.i 0)::.p (.i 0)::.p (.i 0)::.p (.i 0)::.p (.i 0)::(zeroD.map bcD++[.p (.v (.slice none 0 0)),.p (.v (.slice none 0 0)),.p (.v (.slice none 0 0))])))))]) ?_ ?_
 ·refine aws_loopS [8,58,59,60,61,62,63,64,65,66,67,68,69,70,71,72,73,74,75,76] [13,5,902] (fun (x:Nat × List (List Nat) × RS)=>[(8,.p (.i x.1))]) (fun x=>[(13,(1,some (rfM b x.2.2))),(5,(1,some (.box 34 (.p (.i k)::.p (.i f)::.p (.i t)::.p (.i s)::.p (.i p)::(d.map bcD++[.p (.sl 1 (P.map iRw) false),.osl 902 x.1 32 0 x.2.1.length,.p (.v (.slice none 0 0))]))))),(902,(x.1+1,some (.buf 23 32 (x.2.1.map dRw))))])
   (fun x=>x.1≤c∧manyS digS x.1 r9=(x.2.1,x.2.2)) (fun x=>c - x.1) (0,[],r9) ⟨Nat.zero_le _,rfl⟩ (by exact knA) (by exact knA) ?_
  rintro ⟨j,M,q⟩ β γ ⟨hj,hM⟩
  dsimp only at hj hM ⊢
  have hml:M.length≤16:=by have:=many_len digS r9 j;rw [hM] at this;dsimp only at this;omega
  have oq:RfOk b q:=by have:=(par_many par_dig j).rf o9;rwa [hM] at this
  by_cases hjc:j < c
  ·have d1:decide ((j:Int) < (c:Int))=true:=decide_eq_true (by omega)
   by_cases hq:q.2=0
   ·have d2:decide (q.2=0)=true:=decide_eq_true hq
    have hx32:=dig_len q
    obtain ⟨x,q1,ex⟩:=pr_ex (digS q)
    rw [ex] at hx32
    dsimp only at hx32
    have hn:manyS digS (j+1) r9=(M++[x],q1):=by rw [manyS,hM,if_pos hq,ex]
    haveI i3:∀ q' g m:Nat,OC Tryz.prog 73 [.o (.ptr q' g 0)] [(q',(m,some (rfM b q)))] [] (m=g+1) (dgV x) [(q',(m,some (rfM b q1)))]:=fun q' g m=>⟨fun h=>by obtain rfl:=h;have:=(rfdig_o g b q oq).one q';rw [ren_dgV,ex] at this;exact this⟩
    clear ex oq hM j9
    repeat' (first|refine jx14 ?_|refine jy0 ?_ ?_|exact spF|refine spQ fun hq hq'=>?_|refine spN fun hn=>?_|fail)
    refine aws_draws [(3,13),(5,902),(7,5)] mixed (by kernel_rfl) ?_
    repeat' (first|refine jx15 ?_|refine jy1 ?_ ?_|exact spF|refine spQ fun hq hq'=>?_|fail)
    as_aux_lemma=>
     repeat' (first|refine jx14 ?_|refine jy0 ?_ ?_|exact spF|refine spQ fun hq hq'=>?_|refine spN fun hn=>?_|fail)
     exact ⟨(j+1,M++[x],q1),_,by dsimp only;omega,⟨by dsimp only;omega,hn⟩,.refl,by exact frA⟩
   ·have d2:decide (q.2=0)=false:=decide_eq_false hq
    have hm:manyS digS c r9=(M,q):=by
     have:=many_bad (P:=digS) r9 (k:=j) (by rw [hM];exact hq) (c - j)
     rw [show j+(c - j)=c by omega] at this
     rw [this,hM]
    rw [eA] at hm
    obtain ⟨rfl,rfl⟩:=Prod.mk.inj hm
    clear hM hm oq j9
    as_aux_lemma=>
     repeat' (first|refine jx14 ?_|refine jy0 ?_ ?_|exact spF|refine spQ fun hq hq'=>?_|refine spN fun hn=>?_|fail)
     exact ⟨_,trivial,by exact knA,by exact knA⟩
  ·have d1:decide ((j:Int) < (c:Int))=false:=decide_eq_false (by omega)
   obtain rfl:j=c:=by omega
   rw [eA] at hM
   obtain ⟨rfl,rfl⟩:=Prod.mk.inj hM
   clear hM oq j9
   as_aux_lemma=>
    repeat' (first|refine jx14 ?_|refine jy0 ?_ ?_|exact spF|refine spQ fun hq hq'=>?_|refine spN fun hn=>?_|fail)
    exact ⟨_,trivial,by exact knA,by exact knA⟩
 rintro g2 ν3 -
 clear j9 o9 eA
 refine aws_says (says_frz_at (p:=5) (k:=0+38) (o:=902) rfl (mc38 h32) (ms38 h32) rfl rfl (by rw [List.length_map]) (by decide)) ?_
 by_cases hz:rA.2=0
 rotate_left
 ·have d2:decide (rA.2≠0)=true:=decide_eq_true hz
  rw [if_pos hz]
  as_aux_lemma=>
   repeat' (first|refine jx14 ?_|refine jy0 ?_ ?_|exact spF|refine spQ fun hq hq'=>?_|refine spN fun hn=>?_|fail)
   exact rc2 rfl rfl rfl rfl rfl rfl (finM (d:=zeroD) .nil .nil .nil) rfl finS_p rfl
 rw [if_neg fun q=>q hz]
 have d2:decide (rA.2≠0)=false:=decide_eq_false fun q=>q hz
 have cRL:=refReadAll_w rA.1 oA.byte oA.rd
 have lok:=readL_ok rA.1 oA.byte oA.rd
 have hat:atI b rA=(b.length:Int) - (rA.1.length:Int):=rfl
 have hsl:=oA.suf.length_le
 have hdr:=suffix_drop oA.suf
 have hN:(atI b rA).toNat=b.length - rA.1.length:=by omega
 have hlo:0≤atI b rA:=by omega
 have hhi:atI b rA≤(b.length:Int):=by omega
 obtain ⟨M,hM⟩:∃ M,M=(readL rA.1).1:=⟨_,rfl⟩
 obtain ⟨e,he⟩:∃ e,e=(readL rA.1).2:=⟨_,rfl⟩
 rw [← hM,← he] at lok cRL ⊢
 obtain ⟨le,lM,kM⟩:=lok
 have hin:MIn ⟨k,f,t,s,p,d,P,G,M⟩:=⟨d32,dok,by show P.length≤_;omega,by show G.length≤_;omega,gG,by show M.length≤_;omega,fun k hk=>(kM k hk).1,fun k hk=>by have:=(kM k hk).2;omega⟩
 have cR:=refRight26_w _ hin
 generalize rightM ⟨k,f,t,s,p,d,P,G,M⟩=R at cR ⊢
 haveI jR:PC Tryz.prog 16 [.a (.p (.i k)::.p (.i f)::.p (.i t)::.p (.i s)::.p (.i p)::(d.map bcD++[.p (.sl 1 (P.map iRw) false),.p (.sl 32 (G.map dRw) false),.p (.sl 10 (M.map kR) false)]))] True (.p (.b R)):=⟨fun _=>cR⟩
 clear cR hin kM gG hM he oA hat
 rcases le with rfl|rfl
 ·have cA:PC Tryz.prog 74 [.p (.sl 1 ((b.drop (atI b rA).toNat).map bR) false)] True (.tup [.one (.p (.sl 10 (M.map kR) false)),.one (.p (.b true))]):=⟨fun _=>by rw [hN,hdr];exact cRL⟩
  haveI:=cA
  have t0:(!true)=false:=rfl
  clear cRL hdr
  cases R with
  | true=>
   rw [if_neg (by intro h;rcases h with h|h;exact h rfl;cases h)]
   as_aux_lemma=>
    repeat' (first|refine jx14 ?_|refine jy0 ?_ ?_|exact spF|refine spQ fun hq hq'=>?_|refine spN fun hn=>?_|fail)
    exact rc2 rfl rfl rfl rfl rfl (mlen h32) (finM .p .p .p) rfl finS_p rfl
  | false=>
   rw [if_pos (.inr rfl)]
   as_aux_lemma=>
    repeat' (first|refine jx14 ?_|refine jy0 ?_ ?_|exact spF|refine spQ fun hq hq'=>?_|refine spN fun hn=>?_|fail)
    exact rc2 rfl rfl rfl rfl rfl rfl (finM (d:=zeroD) .nil .nil .nil) rfl finS_p rfl
 ·have cA:PC Tryz.prog 74 [.p (.sl 1 ((b.drop (atI b rA).toNat).map bR) false)] True (.tup [.one (.p (.sl 10 (M.map kR) false)),.one (.p (.b false))]):=⟨fun _=>by rw [hN,hdr];exact cRL⟩
  haveI:=cA
  have t0:(!false)=true:=rfl
  clear cRL hdr
  rw [if_pos (.inl (by decide))]
  as_aux_lemma=>
   repeat' (first|refine jx14 ?_|refine jy0 ?_ ?_|exact spF|refine spQ fun hq hq'=>?_|refine spN fun hn=>?_|fail)
   exact rc2 rfl rfl rfl rfl rfl rfl (finM (d:=zeroD) .nil .nil .nil) rfl finS_p rfl
end Go.Proofs.YtcbhmngagibhmaaGreat.Wi
