/- outbox: what is sent -/
import Derived.Test.YtpgppgehhclfoaaGreatOBC02
import Derived.Test.YtpgppgehhclfoaaGreatOBD76
namespace Go.Proofs.YtpgppgehhclfoaaGreat.Wi
open Go Go.RowKit Go.Aw Go.Aw.Cart Go.Aw.Tree Go.Proofs.YtpgppgehhclfoaaGreat.Ca Go.Proofs.YtpgppgehhclfoaaGreat.Rg
set_option linter.unusedVariables false
set_option linter.unusedSimpArgs false
set_option maxRecDepth 8000
set_option maxHeartbeats 4000000
open O3
def sendE (m:Msg) (k:Int):Int:=if rightM m=false then 3 else askF k
def sendB (b:Bx) (m:Msg) (k:Int):Bx:=if sendE m k=0 then ⟨b.out++[(m,k)],b.ans,b.lost⟩ else b
theorem obSend_o (n:Nat) (b:Bx) (m:Msg) (k:Int) (h:MIn m) (hl:b.out.length < 500):OCall Tryz.prog 32 [.o (.ptr 1000 n 0),mV m,.p (.i k)] (memL [(1000,(n+1,some (bxM b)))]) (.p (.i (sendE m k))) (memL [(1000,(n+1,some (bxM (sendB b m k))))]):=by
 refine ocall_of1 Tryz.func32 rfl (fun w0 F S0 M0=>?_)
 have hd:=h.d32
 have h32:(m.dig.map bcD).length=32:=by rw [List.length_map];exact hd
 have z32:(zeroD.map bcD).length=32:=rfl
 have d0:decide (askF 0≠0)=false:=rfl
 unfold sendB sendE
 cases hr:rightM m with
 | false=>
  have cw:=mwrite_no m h hr
  haveI i1:PC Tryz.prog 13 [mV m] True (.tup [.one (.p (.sl 1 (([]:List Nat).map bR) false)),.one (.p (.i 3))]):=⟨fun _=>cw⟩
  rw [if_pos rfl,if_neg (by decide)]
  as_aux_lemma=>
   repeat' (first|refine jx17 ?_|refine jy0 ?_ ?_|exact spF|refine spQ fun hq hq'=>?_|refine spN fun hn=>?_|fail)
   exact RetO.mk (ot1 rfl rfl finS_p rfl) ⟨.abs,trivial⟩
 | true=>
  have cw:=mwrite_ok m h hr
  have cr:=mread_w (msgB m) (msgB_ok h) (Nat.le_trans (msgB_le h hr) (by decide))
  rw [mread_back h hr] at cr
  generalize msgB m=B at cw cr
  haveI i1:PC Tryz.prog 13 [mV m] True (.tup [.one (.p (.sl 1 (B.map bR) false)),.one (.p (.i 0))]):=⟨fun _=>cw⟩
  haveI i2:PC Tryz.prog 14 [.p (.sl 1 (B.map bR) false)] True (.tup [.agg (mL m),.one (.p (.i 0))]):=⟨fun _=>cr⟩
  rw [if_neg (by decide)]
  by_cases q:askF k=0
  ·have d1:decide (askF k≠0)=false:=decide_eq_false fun h=>h q
   rw [if_pos q,q]
   have d2:decide ((500:Int) < ((b.out++[(m,k)]).length:Int))=false:=decide_eq_false (by rw [List.length_append,List.length_singleton];omega)
   repeat' (first|refine jx17 ?_|refine jy0 ?_ ?_|exact spF|refine spQ fun hq hq'=>?_|refine spN fun hn=>?_|fail)
   refine aws_says (says_unpack2 (p:=1000) (a:=901) (b:=902) rfl rfl rfl (by decide) (by decide) (by decide) (List.length_map _) (List.length_map _)) ?_
   refine aws_draws [(9,901),(12,1000)] mixed (by kernel_rfl) ?_
   repeat' (first|refine jx21 ?_|refine jy1 ?_ ?_|exact spF|refine spQ fun hq hq'=>?_|fail)
   repeat' (first|refine jx18 ?_|refine jy0 ?_ ?_|exact spF|refine spQ fun hq hq'=>?_|refine spN fun hn=>?_|fail)
   refine aws_says (says_pack2 (p:=1000) (a:=901) (b:=902) rfl rfl rfl rfl rfl (List.length_map _).symm (List.length_map _).symm (by decide) (by decide) (by decide)) ?_
   as_aux_lemma=>
    repeat' (first|refine jx17 ?_|refine jy0 ?_ ?_|exact spF|refine spQ fun hq hq'=>?_|refine spN fun hn=>?_|fail)
    exact RetO.mk (ot1 rfl rfl finS_p rfl) ⟨.abs,trivial⟩
  ·have d1:decide (askF k≠0)=true:=decide_eq_true q
   rw [if_neg q]
   as_aux_lemma=>
    repeat' (first|refine jx17 ?_|refine jy0 ?_ ?_|exact spF|refine spQ fun hq hq'=>?_|refine spN fun hn=>?_|fail)
    exact RetO.mk (ot1 rfl rfl finS_p rfl) ⟨.abs,trivial⟩
instance obSend_i {c g n:Nat} {b:Bx} {m:Msg} {k:Int}:OC Tryz.prog 32 [.o (.ptr c g 0),mV m,.p (.i k)] [(c,(n,some (bxM b)))] [] (n=g+1∧MIn m∧b.out.length < 500) (.p (.i (sendE m k))) [(c,(n,some (bxM (sendB b m k))))]:=⟨fun h=>by
 obtain ⟨rfl,h1,h2⟩:=h
 have:=(obSend_o g b m k h1 h2).one c
 simp only [List.map_cons,List.map_nil] at this
 rw [show AV.ren (rn1 c) (mV m)=mV m by rw [show mV m=.a ((mR m).map .p) by rw [← mL_eq]];show AV.a (((mR m).map AC.p).map (AC.ren (rn1 c)))=_;rw [List.map_map];rfl] at this
 exact this⟩
end Go.Proofs.YtpgppgehhclfoaaGreat.Wi
namespace Go.Proofs.YtpgppgehhclfoaaGreat.Wi
open Go Go.RowKit Go.Aw Go.Aw.Cart Go.Aw.Tree Go.Proofs.YtpgppgehhclfoaaGreat.Ca Go.Proofs.YtpgppgehhclfoaaGreat.Rg
set_option linter.unusedVariables false
set_option linter.unusedSimpArgs false
set_option maxRecDepth 8000
set_option maxHeartbeats 4000000
abbrev mN (a f t s p:Int):List AC:=.p (.i a)::.p (.i f)::.p (.i t)::.p (.i s)::.p (.i p)::(zeroD.map bcD++[.p (.v (.slice none 0 0)),.p (.v (.slice none 0 0)),.p (.v (.slice none 0 0))])
abbrev mZ (a f t s p:Int):Msg:=⟨a,f,t,s,p,zeroD,[],[],[]⟩
theorem mN_ent {a f t s p:Int}:Ent1 (.a (mN a f t s p)) (mV (mZ a f t s p)):=ent_m PE.nil PE.nil PE.nil
theorem mZ_in {a f t s p:Int}:MIn (mZ a f t s p):=⟨rfl,zeroD_ok,Nat.zero_le _,Nat.zero_le _,fun d hd=>(by cases hd),Nat.zero_le _,fun d hd=>(by cases hd),fun d hd=>(by cases hd)⟩
theorem lop_bm4 {C:Ctx} {o:Oper} {σ:St} {T:TypeId} {x0 x1 x2 x3:Operand} {a f t s:Int} {fs:List (Nat × Nat)} {z:List Value} (ho:o.op=.build T #[(0,x0),(1,x1),(2,x2),(3,x3)]) (hF:TF C.P T fs) (hz:TZ C.P T z) (g0:σ.look x0=.p (.i a)) (g1:σ.look x1=.p (.i f)) (g2:σ.look x2=.p (.i t)) (g3:σ.look x3=.p (.i s)) (h1:z.all (·.oneCell')=true)
  (hb:bfill (fun i=>fs[i]?) (z.map fun v=>.p (.v v)) [(0,[.p (.i a)]),(1,[.p (.i f)]),(2,[.p (.i t)]),(3,[.p (.i s)])]=some (mN a f t s 0)) (hd:dOk C o.dst=true):LOp C o σ ⟨.a (mN a f t s 0),[]⟩ (fun _=>false):=lop_build4 ho hF hz g0 g1 g2 g3 h1 hb hd
theorem lop_bm0 {C:Ctx} {o:Oper} {σ:St} {T:TypeId} {fs:List (Nat × Nat)} {z:List Value} (ho:o.op=.build T #[]) (hF:TF C.P T fs) (hz:TZ C.P T z) (h1:z.all (·.oneCell')=true)
  (hb:bfill (fun i=>fs[i]?) (z.map fun v=>.p (.v v)) []=some (mN 0 0 0 0 0)) (hd:dOk C o.dst=true):LOp C o σ ⟨.a (mN 0 0 0 0 0),[]⟩ (fun _=>false):=lop_build0 ho hF hz h1 hb hd
theorem lop_ba0 {C:Ctx} {o:Oper} {σ:St} {T:TypeId} {fs:List (Nat × Nat)} {z:List Value} (ho:o.op=.build T #[]) (hF:TF C.P T fs) (hz:TZ C.P T z) (h1:z.all (·.oneCell')=true)
  (hb:bfill (fun i=>fs[i]?) (z.map fun v=>.p (.v v)) []=some [.p (.i 0),.p (.i 0),.p (.v (.slice none 0 0))]) (hd:dOk C o.dst=true):LOp C o σ ⟨.a [.p (.i 0),.p (.i 0),.p (.v (.slice none 0 0))],[]⟩ (fun _=>false):=lop_build0 ho hF hz h1 hb hd
theorem lop_ba2 {C:Ctx} {o:Oper} {σ:St} {T:TypeId} {x0 x1:Operand} {p0 p1:PVal} {fs:List (Nat × Nat)} {z:List Value} (ho:o.op=.build T #[(0,x0),(2,x1)]) (hF:TF C.P T fs) (hz:TZ C.P T z) (g0:σ.look x0=.p p0) (g1:σ.look x1=.p p1) (h1:z.all (·.oneCell')=true)
  (hb:bfill (fun i=>fs[i]?) (z.map fun v=>.p (.v v)) [(0,[.p p0]),(2,[.p p1])]=some [.p p0,.p (.i 0),.p p1]) (hd:dOk C o.dst=true):LOp C o σ ⟨.a [.p p0,.p (.i 0),.p p1],[]⟩ (fun _=>false):=
 lop_buildx (ps:=[(0,[.p p0]),(2,[.p p1])]) ho hF hz (.cons ⟨rfl,_,g0,rfl⟩ (.cons ⟨rfl,_,g1,rfl⟩ .nil)) h1 hb hd
namespace O5
theorem lopC {C:Ctx} {o:Oper} {σ:St} {e:Eff} {ro:Nat→Bool} (h:LOp C o σ e ro:=by
  first|(apply lop_bm4;(focus rfl);(focus exact inferInstance);(focus exact inferInstance);(focus rfl);(focus rfl);(focus rfl);(focus rfl);(focus decide);(focus rfl);(focus rfl))|(apply lop_bm0;(focus rfl);(focus exact inferInstance);(focus exact inferInstance);(focus decide);(focus rfl);(focus rfl))|(apply lop_ba0;(focus rfl);(focus exact inferInstance);(focus exact inferInstance);(focus decide);(focus rfl);(focus rfl))|(apply lop_ba2;(focus rfl);(focus exact inferInstance);(focus exact inferInstance);(focus rfl);(focus rfl);(focus decide);(focus rfl);(focus rfl))|exact O4.lopC|fail):LOp C o σ e ro:=h
section steps
variable {C:Ctx} {ops:Array Oper} {o:Oper} {rest:List Oper} {K:St→Prop} {σ:St} {e:Eff} {ro:Nat→Bool} {W:List (Nat × Nat)} {i:Nat}
theorem rnC {d:Nat} (hg:Guard ops σ o true:=by first|exact gd_n rfl rfl|exact gd_t rfl rfl rfl rfl|exact gd_t rfl rfl rfl (by assumption)) (hd:o.dst=some d:=by rfl) (h:LOp C o σ e ro:=by exact lopC) (hk:RunN C ops rest K (e.app (some d) σ)):RunN C ops (o::rest) K σ:=rn_any hg hd h hk
theorem rkC {d:Nat} (hg:Guard ops σ o true:=by first|exact gd_n rfl rfl|exact gd_t rfl rfl rfl rfl|exact gd_t rfl rfl rfl (by assumption)) (hd':o.dst=some d:=by rfl) (hd:dOk C o.dst=true:=by rfl) (h:LOp C o σ e ro:=by exact lopC) (hro:∀ x,ro x=true→okObj ops W i x=true:=by first|exact fun _=>ro_none|exact ro_one rfl|exact ro_k1 rfl|exact ro_one (by kernel_rfl)|exact ro_k1 (by kernel_rfl)|exact ro_kIn (by decide)) (hob:∀ p∈e.obj,(i,p.1)∈W:=by first|exact ob_none|exact ob_one (by decide)|decide) (hk:RunK C ops W (i+1) rest K (e.app (some d) σ)):RunK C ops W i (o::rest) K σ:=rk_wr hg hd' hd h hro hob hk
end steps
end O5
open O5
open O3 (rnSH rkSH stoH3)
theorem alive29_w:PCall Tryz.prog 23 [] (.p (.b true)):=by
 refine pcall_of Tryz.func23 rfl (fun w0 F S0 M0=>?_)
 obtain ⟨M,hM⟩:∃ M:Msg,M=mZ 4 1 2 3 0:=⟨_,rfl⟩
 have z32:(zeroD.map bcD).length=32:=rfl
 have m32:M.dig.length=32:=by rw [hM];rfl
 have hr:rightM M=true:=by rw [hM];decide
 have mi:MIn M:=by rw [hM];exact mZ_in
 haveI j1:∀ q g n:Nat,OC Tryz.prog 32 [.o (.ptr q g 0),.a (mN 4 1 2 3 0),.p (.i 2)] [(q,(n,some (bxM ⟨[],[],0⟩)))] [] (n=g+1) (.p (.i 0)) [(q,(n,some (bxM ⟨[(M,2)],[],0⟩)))]:=fun q g n=>⟨fun h=>by
  have k:=(obSend_i (c:=q) (g:=g) (n:=n) (b:=⟨[],[],0⟩) (m:=M) (k:=2)).call ⟨h,mi,by decide⟩
  have e1:sendE M 2=0:=by unfold sendE;rw [hr];rfl
  rw [show sendB ⟨[],[],0⟩ M 2=⟨[(M,2)],[],0⟩ by unfold sendB;rw [if_pos e1];rfl,e1] at k
  exact k.ent (.cons Ent1.refl (.cons (by rw [hM];exact mN_ent) (.cons Ent1.refl .nil)))⟩
 haveI j2:∀ q g n:Nat,OC Tryz.prog 33 [.o (.ptr q g 0),.a [.p (.i 5),.p (.i 0),.p (.sl 1 [[.i 6]] true)],.p (.i 1)] [(q,(n,some (bxM ⟨[(M,2)],[],0⟩)))] [] (n=g+1) (.p (.i 0)) [(q,(n,some (bxM ⟨[(M,2)],[((5,0,[6]),1)],0⟩)))]:=fun q g n=>⟨fun h=>by
  have k:=(obTell_i (c:=q) (g:=g) (n:=n) (b:=⟨[(M,2)],[],0⟩) (a:=(5,0,[6])) (k:=1)).call ⟨h,by show (0:Nat) < 500000;decide,by decide⟩
  exact k.ent (.cons Ent1.refl (.cons (Ent1.cells (cs:=[.i 5,.i 0,.sl 1 [[.i 6]] true]) (ds:=[.i 5,.i 0,.sl 1 [[.i 6]] false]) (.cons .refl (.cons .refl (.cons PE.ex .nil)))) (.cons Ent1.refl .nil)))⟩
 haveI j3:∀ q g n:Nat,OC Tryz.prog 32 [.o (.ptr q g 0),.a (mN 0 0 0 0 0),.p (.i 0)] [(q,(n,some (bxM ⟨[(M,2)],[((5,0,[6]),1)],0⟩)))] [] (n=g+1) (.p (.i 3)) [(q,(n,some (bxM ⟨[(M,2)],[((5,0,[6]),1)],0⟩)))]:=fun q g n=>⟨fun h=>by
  have k:=(obSend_i (c:=q) (g:=g) (n:=n) (b:=⟨[(M,2)],[((5,0,[6]),1)],0⟩) (m:=mZ 0 0 0 0 0) (k:=0)).call ⟨h,mZ_in,by show (1:Nat) < 500;decide⟩
  have e1:sendE (mZ 0 0 0 0 0) 0=3:=by decide
  rw [show sendB ⟨[(M,2)],[((5,0,[6]),1)],0⟩ (mZ 0 0 0 0 0) 0=⟨[(M,2)],[((5,0,[6]),1)],0⟩ by unfold sendB;rw [e1];rfl,e1] at k
  exact k.ent (.cons Ent1.refl (.cons mN_ent (.cons Ent1.refl .nil)))⟩
 haveI j4:∀ q g n:Nat,OC Tryz.prog 33 [.o (.ptr q g 0),.a [.p (.i 0),.p (.i 0),.p (.v (.slice none 0 0))],.p (.i (-1))] [(q,(n,some (bxM ⟨[(M,2)],[((5,0,[6]),1)],0⟩)))] [] (n=g+1) (.p (.i 1)) [(q,(n,some (bxM ⟨[(M,2)],[((5,0,[6]),1)],0⟩)))]:=fun q g n=>⟨fun h=>by
  have k:=(obTell_i (c:=q) (g:=g) (n:=n) (b:=⟨[(M,2)],[((5,0,[6]),1)],0⟩) (a:=(0,0,[])) (k := -1)).call ⟨h,by show (1:Nat) < 500000;decide,by decide⟩
  exact k.ent (.cons Ent1.refl (.cons (Ent1.cells (cs:=[.i 0,.i 0,.v (.slice none 0 0)]) (ds:=[.i 0,.i 0,.sl 1 [] false]) (.cons .refl (.cons .refl (.cons PE.nil .nil)))) (.cons Ent1.refl .nil)))⟩
 have dg:∀ (v:Int),∀ h∈[((M,v):Hm)],h.1.dig.length=32:=fun v h hh=>by rw [List.mem_singleton] at hh;rw [hh];exact m32
 haveI j5:∀ q g n:Nat,OC Tryz.prog 29 [.o (.ptr q g 0),.p (.i 1)] [(q,(n,some (bxM ⟨[(M,2)],[((5,0,[6]),1)],0⟩)))] [] (n=g+1) (.p (.sl 40 [] false)) [(q,(n,some (bxM ⟨[(M,2)],[((5,0,[6]),1)],0⟩)))]:=fun q g n=>⟨fun h=>(obOut_i (c:=q) (g:=g) (n:=n) (b:=⟨[(M,2)],[((5,0,[6]),1)],0⟩) (s:=1)).call ⟨h,by show (1:Nat)≤1000000;decide,dg 2⟩⟩
 haveI j6:∀ q g n:Nat,OC Tryz.prog 34 [.o (.ptr q g 0),.p (.i 1)] [(q,(n,some (bxM ⟨[(M,2)],[((5,0,[6]),1)],0⟩)))] [] (n=g+1) (.p (.sl 3 [[.i 5,.i 0,.sl 1 [[.i 6]] false]] false)) [(q,(n,some (bxM ⟨[(M,2)],[],0⟩)))]:=fun q g n=>⟨fun h=>(obTold_i (c:=q) (g:=g) (n:=n) (b:=⟨[(M,2)],[((5,0,[6]),1)],0⟩) (s:=1)).call ⟨h,by show (1:Nat)≤1000000;decide⟩⟩
 haveI j7:∀ q g n:Nat,OC Tryz.prog 25 [.o (.ptr q g 0)] [(q,(n,some (bxM ⟨[(M,2)],[],0⟩)))] [] (n=g+1) (.tup [.one (.p (.i 1)),.one (.p (.i 0))]) [(q,(n,some (bxM ⟨[(M,2)],[],0⟩)))]:=fun q g n=>⟨fun h=>(obWaits_i (c:=q) (g:=g) (n:=n) (b:=⟨[(M,2)],[],0⟩)).call h⟩
 haveI j8:∀ q g n:Nat,OC Tryz.prog 31 [.o (.ptr q g 0)] [(q,(n,some (bxM ⟨[(M,2)],[],0⟩)))] [] (n=g+1) (.tup []) [(q,(n,some (bxM ⟨[(M,0)],[],0⟩)))]:=fun q g n=>⟨fun h=>(obShift_i (c:=q) (g:=g) (n:=n) (b:=⟨[(M,2)],[],0⟩)).call ⟨h,by show (1:Nat)≤1000000;decide,Nat.zero_le _,dg 2⟩⟩
 haveI j9:∀ q g n:Nat,OC Tryz.prog 29 [.o (.ptr q g 0),.p (.i 0)] [(q,(n,some (bxM ⟨[(M,0)],[],0⟩)))] [] (n=g+1) (.p (.sl 40 [mR M] false)) [(q,(n,some (bxM ⟨[],[],0⟩)))]:=fun q g n=>⟨fun h=>(obOut_i (c:=q) (g:=g) (n:=n) (b:=⟨[(M,0)],[],0⟩) (s:=0)).call ⟨h,by show (1:Nat)≤1000000;decide,dg 0⟩⟩
 haveI j0:∀ q g n:Nat,OC Tryz.prog 26 [.o (.ptr q g 0)] [(q,(n,some (bxM ⟨[],[],0⟩)))] [] (n=g+1) (.p (.i 0)) [(q,(n,some (bxM ⟨[],[],0⟩)))]:=fun q g n=>⟨fun h=>(obLost_i (c:=q) (g:=g) (n:=n) (b:=⟨[],[],0⟩)).call h⟩
 have ks:PCall Tryz.prog 18 [mV M,.a (mN 4 1 2 3 0)] (.p (.b true)):=by
  have h:=psame_w M M mi mi
  rw [sameM_refl] at h
  exact h.ent (.cons Ent1.refl (.cons (by rw [hM];exact mN_ent) .nil))
 haveI is:PC Tryz.prog 18 [mV M,.a (mN 4 1 2 3 0)] True (.p (.b true)):=⟨fun _=>ks⟩
 clear hM hr mi dg ks
 repeat' (first|refine jx17 ?_|refine jy0 ?_ ?_|exact spF|refine spQ fun hq hq'=>?_|refine spN fun hn=>?_|fail)
 refine aws_draws [(52,12)] mixed (by kernel_rfl) ?_
 repeat' (first|refine jx21 ?_|refine jy1 ?_ ?_|exact spF|refine spQ fun hq hq'=>?_|fail)
 as_aux_lemma=>
  repeat' (first|refine jx17 ?_|refine jy0 ?_ ?_|exact spF|refine spQ fun hq hq'=>?_|refine spN fun hn=>?_|fail)
  exact rt1 rfl rfl finS_p rfl
end Go.Proofs.YtpgppgehhclfoaaGreat.Wi
namespace Go.Proofs.YtpgppgehhclfoaaGreat.Wi
open Go Go.RowKit Go.Aw Go.Aw.Cart Go.Aw.Tree Go.Proofs.YtpgppgehhclfoaaGreat.Ca Go.Proofs.YtpgppgehhclfoaaGreat.Rg
set_option linter.unusedVariables false
set_option linter.unusedSimpArgs false
set_option maxRecDepth 8000
def smF (k:Nat):Msg:=mZ 4 1 2 (1+(k:Int)) 0
theorem smF_right {k:Nat} (h:k≤1000):rightM (smF k)=true:=by
 rw [right_ref]
 have e1:nodesR (smF k)=true:=rfl
 have e2:headR (smF k)=true:=by
  unfold headR smF
  rw [if_neg (by show ¬ (4:Int)=7;decide)]
  exact decide_eq_true ⟨by show 1≤1+(k:Int);omega,by show 1+(k:Int)≤_;omega,by show (0:Int)≤0;decide,by show (0:Int)≤7;decide⟩
 have e3:bodyR (smF k)=true:=by
  show bodyR (mZ 4 1 2 (1+(k:Int)) 0)=true
  rfl
 rw [e1,e2,e3];rfl
def hsF (marks:List Int) (k:Nat):Hm:=(smF k,marks.getD k 0)
structure OInv (sent gone:Nat) (marks:List Int) (out:List Hm) (ks:List Nat):Prop where
 len:marks.length=sent
 out:out=ks.map (hsF marks)
 up:ks.Pairwise (· < ·)
 lt:∀ k∈ks,k < sent
 sum:ks.length+gone=sent
theorem OInv.out_len {sent gone marks out ks} (h:OInv sent gone marks out ks):out.length=ks.length:=by rw [h.out,List.length_map]
theorem OInv.start:OInv 0 0 [] [] []:=⟨rfl,rfl,.nil,fun k hk=>(by cases hk),rfl⟩
theorem OInv.send {sent gone marks out ks} (h:OInv sent gone marks out ks) (v:Int):OInv (sent+1) gone (marks++[v]) (out++[(smF sent,v)]) (ks++[sent]):=by
 refine ⟨by rw [List.length_append,h.len];rfl,?_,?_,?_,by rw [List.length_append,List.length_singleton];have:=h.sum;omega⟩
 ·rw [h.out,List.map_append]
  congr 1
  ·refine List.map_congr_left fun k hk=>?_
   have:=h.lt k hk
   unfold hsF
   rw [List.getD_eq_getElem?_getD,List.getD_eq_getElem?_getD,List.getElem?_append_left (by rw [h.len];exact this)]
  ·show [(smF sent,v)]=[hsF (marks++[v]) sent]
   unfold hsF
   rw [List.getD_eq_getElem?_getD,List.getElem?_append_right (by rw [h.len];exact Nat.le_refl _),h.len,Nat.sub_self];rfl
 ·rw [List.pairwise_append]
  exact ⟨h.up,List.pairwise_singleton _ _,fun a ha b hb=>by rw [List.mem_singleton] at hb;rw [hb];exact h.lt a ha⟩
 ·intro k hk
  rcases List.mem_append.1 hk with q|q
  ·have:=h.lt k q;omega
  ·rw [List.mem_singleton] at q;omega
def ksG (marks:List Int) (ks:List Nat) (s:Int):List Nat:=ks.filter fun k=>decide (marks.getD k 0≤s)
def ksW (marks:List Int) (ks:List Nat) (s:Int):List Nat:=ks.filter fun k=>!decide (marks.getD k 0≤s)
theorem OInv.gone {sent gone marks out ks} (h:OInv sent gone marks out ks) (s:Int):goneF out s=(ksG marks ks s).map smF:=by
 unfold goneF ksG
 rw [h.out,List.filter_map,List.map_map]
 rfl
theorem OInv.wait {sent gone marks out ks} (h:OInv sent gone marks out ks) (s:Int):waitF out s=(ksW marks ks s).map (hsF marks):=by
 unfold waitF ksW
 rw [h.out,List.filter_map]
 rfl
def offTo (l:List Nat):Nat→List Int→List Int
 | 0,m=>m
 | j+1,m=>(offTo l j m).set (l.getD j 0) 1152921504606846976
theorem offTo_len (l:List Nat):∀ (j:Nat) (m:List Int),(offTo l j m).length=m.length
 | 0,m=>rfl
 | j+1,m=>by rw [offTo,List.length_set,offTo_len l j m]
theorem offTo_get {l:List Nat} {k:Nat}:∀ (j:Nat) (m:List Int),(∀ i,i < j→l.getD i 0≠k)→(offTo l j m).getD k 0=m.getD k 0
 | 0,m,h=>rfl
 | j+1,m,h=>by
  rw [offTo,List.getD_eq_getElem?_getD,List.getElem?_set_ne (h j (Nat.lt_succ_self _)),← List.getD_eq_getElem?_getD]
  exact offTo_get j m fun i hi=>h i (Nat.lt_succ_of_lt hi)
theorem up_get {l:List Nat} (h:l.Pairwise (· < ·)) {i j:Nat} (hi:i < j) (hj:j < l.length):l.getD i 0 < l.getD j 0:=by
 rw [List.getD_eq_getElem?_getD,List.getD_eq_getElem?_getD,List.getElem?_eq_getElem (by omega),List.getElem?_eq_getElem hj]
 exact List.pairwise_iff_getElem.1 h i j (by omega) hj hi
theorem getD_mem' {l:List Nat} {j:Nat} (h:j < l.length):l.getD j 0∈l:=by
 rw [List.getD_eq_getElem?_getD,List.getElem?_eq_getElem h];exact List.getElem_mem _
theorem ksG_mem {marks:List Int} {ks:List Nat} {s:Int} {k:Nat}:k∈ksG marks ks s↔k∈ks∧marks.getD k 0≤s:=by
 unfold ksG
 rw [List.mem_filter,decide_eq_true_iff]
theorem ksW_mem {marks:List Int} {ks:List Nat} {s:Int} {k:Nat}:k∈ksW marks ks s↔k∈ks∧¬ marks.getD k 0≤s:=by
 unfold ksW
 rw [List.mem_filter,Bool.not_eq_true',decide_eq_false_iff_not]
theorem OInv.step {sent gone marks out ks} (h:OInv sent gone marks out ks) (s:Int) {j:Nat} (hj:j < (ksG marks ks s).length) :
  (ksG marks ks s).getD j 0 < marks.length∧(offTo (ksG marks ks s) j marks).getD ((ksG marks ks s).getD j 0) 0≤s∧(0 < j→(ksG marks ks s).getD (j - 1) 0 < (ksG marks ks s).getD j 0):=by
 have hm:=ksG_mem.1 (getD_mem' hj)
 have hu:(ksG marks ks s).Pairwise (· < ·):=h.up.sublist List.filter_sublist
 refine ⟨by rw [h.len];exact h.lt _ hm.1,?_,fun h0=>up_get hu (by omega) hj⟩
 rw [offTo_get _ _ fun i hi=>Nat.ne_of_lt (up_get hu hi hj)]
 exact hm.2
theorem filt_len {α:Type} (p:α→Bool) (l:List α):(l.filter p).length+(l.filter fun x=>!p x).length=l.length:=by
 induction l with
 | nil=>rfl
 | cons a l ih=>
  cases h:p a
  ·simp only [List.filter_cons,h,Bool.not_false,if_true,Bool.false_eq_true,if_false,List.length_cons];omega
  ·simp only [List.filter_cons,h,Bool.not_true,if_true,Bool.false_eq_true,if_false,List.length_cons];omega
theorem OInv.take {sent gone marks out ks} (h:OInv sent gone marks out ks) (s:Int):OInv sent (gone+(ksG marks ks s).length) (offTo (ksG marks ks s) (ksG marks ks s).length marks) (waitF out s) (ksW marks ks s):=by
 refine ⟨by rw [offTo_len];exact h.len,?_,h.up.sublist List.filter_sublist,fun k hk=>h.lt k (ksW_mem.1 hk).1,?_⟩
 ·rw [h.wait]
  refine List.map_congr_left fun k hk=>?_
  unfold hsF
  rw [offTo_get _ _ fun i hi e=>(ksW_mem.1 hk).2 (by rw [← e];exact (ksG_mem.1 (getD_mem' hi)).2)]
 ·have:=filt_len (fun k=>decide (marks.getD k 0≤s)) ks
  have:=h.sum
  unfold ksG ksW
  omega
end Go.Proofs.YtpgppgehhclfoaaGreat.Wi
