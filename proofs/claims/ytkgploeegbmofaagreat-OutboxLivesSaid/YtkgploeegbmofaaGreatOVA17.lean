/- the reference's reader: a cart -/
import Derived.Test.YtkgploeegbmofaaGreatOVA13
import Derived.Test.YtkgploeegbmofaaGreatOVA16
import Derived.Test.YtkgploeegbmofaaGreatOVA19
import Derived.Test.YtkgploeegbmofaaGreatOVA20
import Derived.Test.YtkgploeegbmofaaGreatOVA26
import Derived.Test.YtkgploeegbmofaaGreatOVA12
namespace Go.Proofs.YtkgploeegbmofaaGreat.Wi
open Go Go.RowKit Go.Aw Go.Aw.Cart Go.Proofs.YtkgploeegbmofaaGreat.Ca
set_option linter.unusedVariables false
set_option linter.unusedSimpArgs false
set_option maxRecDepth 8000
set_option maxHeartbeats 4000000
open W8
attribute [local irreducible] vecS smallS entS cartS
end Go.Proofs.YtkgploeegbmofaaGreat.Wi
namespace Go.Proofs.YtkgploeegbmofaaGreat.Wi
open Go Go.RowKit Go.Aw Go.Aw.Cart Go.Proofs.YtkgploeegbmofaaGreat.Ca
set_option linter.unusedVariables false
set_option linter.unusedSimpArgs false
set_option maxRecDepth 8000
set_option maxHeartbeats 4000000
open WA
attribute [local irreducible] vecS smallS entS cartS textS kdS
end Go.Proofs.YtkgploeegbmofaaGreat.Wi
namespace Go.Proofs.YtkgploeegbmofaaGreat.Wi
open Go Go.RowKit Go.Aw Go.Aw.Cart Go.Aw.Tree Go.Proofs.YtkgploeegbmofaaGreat.Ca Go.Proofs.YtkgploeegbmofaaGreat.Rg
set_option linter.unusedVariables false
set_option linter.unusedSimpArgs false
set_option maxRecDepth 8000
set_option maxHeartbeats 4000000
theorem lop_bsD {C:Ctx} {o:Oper} {σ:St} {T e:TypeId} {x0:Operand} {sz by_ be:Nat} {ke:TK} {z:List Value} {d:List Nat} (ho:o.op=.buildSlice T 1 #[(0,x0)]) (hT:TI C.P T (.slice e) sz by_) (he:TI C.P e ke 32 be) (hz:TZ C.P e z) (h0:σ.look x0=.a (d.map bcD)) (hdl:d.length=32) (hd:dOk C o.dst=true) :
  LOp C o σ ⟨.p (.sl 32 [dRw d] true),[]⟩ (fun _=>false):=
 lop_buildSlice (ps:=[(0,dRw d)]) ho (.cons ⟨rfl,by simp [hdl],_,h0,by simp [SV.cells,List.map_map,Function.comp_def]⟩ .nil) rfl (by decide) (by decide) hd
theorem lop_ap_D {C:Ctx} {o:Oper} {σ:St} {T e:TypeId} {x y:Operand} {sz by_ es be:Nat} {ke:TK} {l:List (List Nat)} {z:List Value} {ey:Bool} {ob g n len:Nat} {v:List Nat} (ho:o.op=.call ⟨.builtin .append,#[x,y],#[T,T]⟩) (hT:TI C.P T (.slice e) sz by_) (he:TI C.P e ke es be) (hz:TZ C.P e z) (hx:σ.look x=.o (.osl ob g es 0 len)) (hm:σ.mem ob=(n,some (.buf e es (l.map dRw)))) (hn:n=g+1) (hlr:len=l.length)
  (hy:σ.look y=.p (.sl es [dRw v] ey)) (hzl:z.length=es) (h63:l.length+1≤maxLen) (hby:(l.length+1) * be≤140737488355328) (hd:dOk C o.dst=true) :
  LOp C o σ ⟨.o (.osl ob n es 0 (l++[v]).length),[(ob,(n+1,some (.buf e es ((l++[v]).map dRw))))]⟩ (fun q=>q == ob):=lop_ap_o1 (f:=dRw) (v:=v) ho hT he hz hx hm hn hlr hy rfl hzl h63 hby hd
def lstS:RS→(List Int × List (List Nat)) × RS:=bindS (smallS 16) fun n=>bindS (allS (smallS 20) n.toNat) fun P=>bindS (smallS 16) fun k=>bindS (allS digS k.toNat) fun G=>pureS (P,G)
theorem par_lst:Par lstS:=par_bind (par_small _) fun n=>par_bind (par_all (par_small _) _) fun P=>par_bind (par_small _) fun k=>par_bind (par_all par_dig _) fun G=>par_pure _
theorem lst_at {r r1 r2 r3 r4:RS} {n k:Nat} {P:List Int} {G:List (List Nat)} (h1:smallS 16 r=((n:Int),r1)) (h2:allS (smallS 20) n r1=(P,r2)) (h3:smallS 16 r2=((k:Int),r3)) (h4:allS digS k r3=(G,r4)):lstS r=((P,G),r4):=by
 simp only [lstS,bindS,pureS,h1,Int.toNat_natCast,h2,h3,h4]
theorem all_mem {α:Type} {P:RS→α × RS} (hP:Par P) {Q:α→Prop} (h:∀ r,rdOk r→Q (P r).1) (r:RS) (hr:rdOk r):∀ k,∀ x∈(allS P k r).1,Q x
 | 0,x,hx=>by cases hx
 | k+1,x,hx=>by
  have ih:=all_mem hP h r hr k
  have hx':x∈(allS P k r).1++[(P (allS P k r).2).1]:=hx
  rcases List.mem_append.1 hx' with q|q
  ·exact ih x q
  ·rw [List.mem_singleton] at q
   rw [q];exact h _ ((par_all hP k).rd hr)
theorem lst_fit (r:RS) (hr:rdOk r):(lstS r).1.1.length≤16∧(lstS r).1.2.length≤16∧∀ d∈(lstS r).1.2,d.length=32∧okB d:=by
 obtain ⟨n,hn⟩:=small_nat 16 r
 obtain ⟨r1,h1⟩:∃ r1,(smallS 16 r).2=r1:=⟨_,rfl⟩
 have e1:smallS 16 r=((n:Int),r1):=Prod.ext hn h1
 have o1:rdOk r1:=by rw [← h1];exact (par_small 16).rd hr
 obtain ⟨P,r2,e2⟩:=pr_ex (allS (smallS 20) n r1)
 have o2:rdOk r2:=by have:=(par_all (par_small 20) n).rd o1;rwa [e2] at this
 obtain ⟨k,hk⟩:=small_nat 16 r2
 obtain ⟨r3,h3⟩:∃ r3,(smallS 16 r2).2=r3:=⟨_,rfl⟩
 have e3:smallS 16 r2=((k:Int),r3):=Prod.ext hk h3
 have o3:rdOk r3:=by rw [← h3];exact (par_small 16).rd o2
 obtain ⟨G,r4,e4⟩:=pr_ex (allS digS k r3)
 rw [lst_at e1 e2 e3 e4]
 have k1:=small_le (most:=16) (by decide) r
 have k2:=small_le (most:=16) (by decide) r2
 have k3:=all_len (smallS 20) n r1
 have k4:=all_len digS k r3
 have k5:=all_mem par_dig (Q:=fun d=>d.length=32∧okB d) (fun q hq=>⟨dig_len q,dig_ok q hq⟩) r3 o3 k
 rw [e2] at k3
 rw [e4] at k4 k5
 dsimp only at k3 k4 k5 ⊢
 exact ⟨by omega,by omega,k5⟩
namespace T8
theorem lopC {C:Ctx} {o:Oper} {σ:St} {e:Eff} {ro:Nat→Bool} (h:LOp C o σ e ro:=by
  first|(apply lop_bsD;(focus rfl);(focus exact inferInstance);(focus exact inferInstance);(focus exact inferInstance);(focus rfl);(focus assumption);(focus rfl))|(apply lop_ap_D;(focus rfl);(focus exact inferInstance);(focus exact inferInstance);(focus exact inferInstance);(focus rfl);(focus rfl);(focus rfl);(focus rfl);(focus rfl);(focus rfl);(focus first|(simp only [maxLen,List.length_append,List.length_cons,List.length_nil,List.length_take,List.length_drop,List.length_map];omega)|omega);(focus first|(simp only [maxLen,List.length_append,List.length_cons,List.length_nil,List.length_take,List.length_drop,List.length_map];omega)|omega);(focus rfl))|exact T4.lopC|fail):LOp C o σ e ro:=h
section steps
variable {C:Ctx} {ops:Array Oper} {o:Oper} {rest:List Oper} {K:St→Prop} {σ:St} {e:Eff} {ro:Nat→Bool} {W:List (Nat × Nat)} {i:Nat}
theorem rnC {d:Nat} (hg:Guard ops σ o true:=by first|exact gd_n rfl rfl|exact gd_t rfl rfl rfl rfl|exact gd_t rfl rfl rfl (by assumption)) (hd:o.dst=some d:=by rfl) (h:LOp C o σ e ro:=by exact lopC) (hk:RunN C ops rest K (e.app (some d) σ)):RunN C ops (o::rest) K σ:=rn_any hg hd h hk
theorem rkC {d:Nat} (hg:Guard ops σ o true:=by first|exact gd_n rfl rfl|exact gd_t rfl rfl rfl rfl|exact gd_t rfl rfl rfl (by assumption)) (hd':o.dst=some d:=by rfl) (hd:dOk C o.dst=true:=by rfl) (h:LOp C o σ e ro:=by exact lopC) (hro:∀ x,ro x=true→okObj ops W i x=true:=by first|exact fun _=>ro_none|exact ro_one rfl|exact ro_k1 rfl|exact ro_one (by kernel_rfl)|exact ro_k1 (by kernel_rfl)|exact ro_kIn (by decide)) (hob:∀ p∈e.obj,(i,p.1)∈W:=by first|exact ob_none|exact ob_one (by decide)|decide) (hk:RunK C ops W (i+1) rest K (e.app (some d) σ)):RunK C ops W i (o::rest) K σ:=rk_wr hg hd' hd h hro hob hk
end steps
end T8
open T8
attribute [local irreducible] smallS digS
theorem lists_o (n nd:Nat) (r:RS) (hr:rdOk r) (k f t s p z:PVal) (d:List Nat) (hd:d.length=32):OCall Tryz.prog 94 [.o (.ptr 1000 n 0),.o (.ptr 1001 nd 0)] (memL [(1000,(n+1,some (rdM r))),(1001,(nd+1,some (.box 38 (.p k::.p f::.p t::.p s::.p p::(d.map bcD++[.p (.v (.slice none 0 0)),.p (.v (.slice none 0 0)),.p z])))))]) (.tup [])
  (memL [(1000,(n+1,some (rdM (lstS r).2))),(1001,(nd+1,some (.box 38 (.p k::.p f::.p t::.p s::.p p::(d.map bcD++[.p (.sl 1 ((lstS r).1.1.map iRw) false),.p (.sl 32 ((lstS r).1.2.map dRw) false),.p z])))))]):=by
 refine ocall_of22 Tryz.func94 rfl (fun w0 F S0 M0=>?_)
 have h32:(d.map bcD).length=32:=by rw [List.length_map];exact hd
 obtain ⟨a,ha⟩:=small_nat 16 r
 obtain ⟨r1,h1⟩:∃ r1,(smallS 16 r).2=r1:=⟨_,rfl⟩
 have e1:smallS 16 r=((a:Int),r1):=Prod.ext ha h1
 have a16:=small_le (most:=16) (by decide) r
 have o1:rdOk r1:=by rw [← h1];exact (par_small 16).rd hr
 obtain ⟨P,r2,e2⟩:=pr_ex (allS (smallS 20) a r1)
 have o2:rdOk r2:=by have:=(par_all (par_small 20) a).rd o1;rwa [e2] at this
 obtain ⟨b,hb⟩:=small_nat 16 r2
 obtain ⟨r3,h3⟩:∃ r3,(smallS 16 r2).2=r3:=⟨_,rfl⟩
 have e3:smallS 16 r2=((b:Int),r3):=Prod.ext hb h3
 have b16:=small_le (most:=16) (by decide) r2
 have o3:rdOk r3:=by rw [← h3];exact (par_small 16).rd o2
 obtain ⟨G,r4,e4⟩:=pr_ex (allS digS b r3)
 rw [lst_at e1 e2 e3 e4]
 dsimp only
 rw [ha] at a16
 rw [hb] at b16
 have i1:∀ q g m:Nat,OC Tryz.prog 92 [.o (.ptr q g 0),.p (.i 16)] [(q,(m,some (rdM r)))] [] (m=g+1) (.p (.i (a:Int))) [(q,(m,some (rdM r1)))]:=fun q g m=>⟨fun h=>by obtain rfl:=h;have:=(small_o g r 16 (by decide) hr.1 hr.2).one q;rwa [e1] at this⟩
 have i2:∀ q g m:Nat,OC Tryz.prog 92 [.o (.ptr q g 0),.p (.i 16)] [(q,(m,some (rdM r2)))] [] (m=g+1) (.p (.i (b:Int))) [(q,(m,some (rdM r3)))]:=fun q g m=>⟨fun h=>by obtain rfl:=h;have:=(small_o g r2 16 (by decide) o2.1 o2.2).one q;rwa [e3] at this⟩
 clear ha h1 e1 hb h3 e3
 repeat' (first|refine jx14 ?_|refine jy0 ?_ ?_|exact spF|refine spQ fun hq hq'=>?_|refine spN fun hn=>?_|fail)
 refine aws_says (says_nil_at (p:=1001) (k:=0+37) (o:=901) (ty:=3) (es:=1) rfl (mc37 h32) (ms37 h32) rfl (by decide) (by decide)) ?_
 refine aws_loopS [6,7,8,9,10,11,12,13,14,15,16,17,18,19] [1000,1001,901] (fun (x:Nat × List Int × RS)=>[(6,.p (.i x.1))]) (fun x=>[(1000,(n+1,some (rdM x.2.2))),(1001,(nd+1,some (.box 38 (.p k::.p f::.p t::.p s::.p p::(d.map bcD++[.osl 901 x.1 1 0 x.2.1.length,.p (.v (.slice none 0 0)),.p z]))))),(901,(x.1+1,some (.buf 3 1 (x.2.1.map iRw))))])
  (fun x=>x.1≤a∧allS (smallS 20) x.1 r1=(x.2.1,x.2.2)) (fun x=>a - x.1) (0,[],r1) ⟨Nat.zero_le _,rfl⟩ (by exact knA) (by exact knA) ?_
 rintro ⟨i,L,q⟩ β γ ⟨hi,hL⟩
 dsimp only at hi hL ⊢
 have hll:L.length≤16:=by have:=all_len (smallS 20) i r1;rw [hL] at this;dsimp only at this;omega
 have oq:rdOk q:=by have:=(par_all (par_small 20) i).rd o1;rwa [hL] at this
 by_cases hia:i < a
 ·have d1:decide ((i:Int) < (a:Int))=true:=decide_eq_true (by omega)
  obtain ⟨x,q1,ex⟩:=pr_ex (smallS 20 q)
  have hn:allS (smallS 20) (i+1) r1=(L++[x],q1):=by
   show bindS (allS (smallS 20) i) _ r1=_
   simp only [bindS,pureS,hL,ex]
  haveI i3:∀ q' g m:Nat,OC Tryz.prog 92 [.o (.ptr q' g 0),.p (.i 20)] [(q',(m,some (rdM q)))] [] (m=g+1) (.p (.i x)) [(q',(m,some (rdM q1)))]:=fun q' g m=>⟨fun h=>by obtain rfl:=h;have:=(small_o g q 20 (by decide) oq.1 oq.2).one q';rwa [ex] at this⟩
  clear ex oq hL i1 i2
  repeat' (first|refine jx14 ?_|refine jy0 ?_ ?_|exact spF|refine spQ fun hq hq'=>?_|refine spN fun hn=>?_|fail)
  refine aws_draws [(6,1000),(8,901),(11,1001)] mixed (by kernel_rfl) ?_
  repeat' (first|refine jx15 ?_|refine jy1 ?_ ?_|exact spF|refine spQ fun hq hq'=>?_|fail)
  as_aux_lemma=>
   repeat' (first|refine jx14 ?_|refine jy0 ?_ ?_|exact spF|refine spQ fun hq hq'=>?_|refine spN fun hn=>?_|fail)
   exact ⟨(i+1,L++[x],q1),_,by dsimp only;omega,⟨by dsimp only;omega,hn⟩,.refl,by exact frA⟩
 have d1:decide ((i:Int) < (a:Int))=false:=decide_eq_false (by omega)
 obtain rfl:i=a:=by omega
 rw [e2] at hL
 obtain ⟨rfl,rfl⟩:=Prod.mk.inj hL
 clear hL
 refine aws_says (says_frz_at (p:=1001) (k:=0+37) (o:=901) rfl (mc37 h32) (ms37 h32) rfl rfl (by rw [List.length_map]) (by decide)) ?_
 repeat' (first|refine jx14 ?_|refine jy0 ?_ ?_|exact spF|refine spQ fun hq hq'=>?_|refine spN fun hn=>?_|fail)
 refine aws_says (says_nil_at (p:=1001) (k:=0+38) (o:=902) (ty:=34) (es:=32) rfl (mc38 h32) (ms38 h32) rfl (by decide) (by decide)) ?_
 refine aws_loopS [22,23,24,25,26,27,28,29,30,31,32,33,34,35] [1000,1001,902] (fun (x:Nat × List (List Nat) × RS)=>[(22,.p (.i x.1))]) (fun x=>[(1000,(n+1,some (rdM x.2.2))),(1001,(nd+1,some (.box 38 (.p k::.p f::.p t::.p s::.p p::(d.map bcD++[.p (.sl 1 (P.map iRw) false),.osl 902 x.1 32 0 x.2.1.length,.p z]))))),(902,(x.1+1,some (.buf 34 32 (x.2.1.map dRw))))])
  (fun x=>x.1≤b∧allS digS x.1 r3=(x.2.1,x.2.2)) (fun x=>b - x.1) (0,[],r3) ⟨Nat.zero_le _,rfl⟩ (by exact knA) (by exact knA) ?_
 rintro ⟨j,M,q⟩ β γ ⟨hj,hM⟩
 dsimp only at hj hM ⊢
 have hml:M.length≤16:=by have:=all_len digS j r3;rw [hM] at this;dsimp only at this;omega
 by_cases hjb:j < b
 ·have d2:decide ((j:Int) < (b:Int))=true:=decide_eq_true (by omega)
  have hx32:=dig_len q
  obtain ⟨x,q1,ex⟩:=pr_ex (digS q)
  rw [ex] at hx32
  dsimp only at hx32
  have hn:allS digS (j+1) r3=(M++[x],q1):=by
   show bindS (allS digS j) _ r3=_
   simp only [bindS,pureS,hM,ex]
  haveI i3:∀ q' g m:Nat,OC Tryz.prog 93 [.o (.ptr q' g 0)] [(q',(m,some (rdM q)))] [] (m=g+1) (dgV x) [(q',(m,some (rdM q1)))]:=fun q' g m=>⟨fun h=>by obtain rfl:=h;have:=(rdig_o g q).one q';rw [ren_dgV,ex] at this;exact this⟩
  clear ex hM i1 i2
  repeat' (first|refine jx14 ?_|refine jy0 ?_ ?_|exact spF|refine spQ fun hq hq'=>?_|refine spN fun hn=>?_|fail)
  refine aws_draws [(6,1000),(8,902),(11,1001)] mixed (by kernel_rfl) ?_
  repeat' (first|refine jx15 ?_|refine jy1 ?_ ?_|exact spF|refine spQ fun hq hq'=>?_|fail)
  as_aux_lemma=>
   repeat' (first|refine jx14 ?_|refine jy0 ?_ ?_|exact spF|refine spQ fun hq hq'=>?_|refine spN fun hn=>?_|fail)
   exact ⟨(j+1,M++[x],q1),_,by dsimp only;omega,⟨by dsimp only;omega,hn⟩,.refl,by exact frA⟩
 have d2:decide ((j:Int) < (b:Int))=false:=decide_eq_false (by omega)
 obtain rfl:j=b:=by omega
 rw [e4] at hM
 obtain ⟨rfl,rfl⟩:=Prod.mk.inj hM
 clear hM
 refine aws_says (says_frz_at (p:=1001) (k:=0+38) (o:=902) rfl (mc38 h32) (ms38 h32) rfl rfl (by rw [List.length_map]) (by decide)) ?_
 as_aux_lemma=>
  repeat' (first|refine jx14 ?_|refine jy0 ?_ ?_|exact spF|refine spQ fun hq hq'=>?_|refine spN fun hn=>?_|fail)
  exact RetO.mk (res0 rfl rfl) ⟨.box finL_p,.box (finM .p .p .p),trivial⟩
end Go.Proofs.YtkgploeegbmofaaGreat.Wi
