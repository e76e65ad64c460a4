/- outbox, the laws: alive -/
import Derived.Test.YtkgploeegbmofaaGreatOVA33
import Derived.Test.YtkgploeegbmofaaGreatOVA34
import Derived.Test.YtkgploeegbmofaaGreatOVA32
namespace Go.Proofs.YtkgploeegbmofaaGreat.Wi
open Go Go.RowKit Go.Aw Go.Aw.Cart Go.Aw.Tree Go.Proofs.YtkgploeegbmofaaGreat.Ca Go.Proofs.YtkgploeegbmofaaGreat.Rg
set_option linter.unusedVariables false
set_option linter.unusedSimpArgs false
set_option maxRecDepth 8000
set_option maxHeartbeats 4000000
abbrev mN (a f t s p:Int):List AC:=.p (.i a)::.p (.i f)::.p (.i t)::.p (.i s)::.p (.i p)::(zeroD.map bcD++[.p (.v (.slice none 0 0)),.p (.v (.slice none 0 0)),.p (.v (.slice none 0 0))])
abbrev mZ (a f t s p:Int):Msg:=⟨a,f,t,s,p,zeroD,[],[],[]⟩
theorem mN_ent {a f t s p:Int}:Ent1 (.a (mN a f t s p)) (mV (mZ a f t s p)):=ent_m PE.nil PE.nil PE.nil
theorem mZ_in {a f t s p:Int}:MIn (mZ a f t s p):=⟨rfl,zeroD_ok,Nat.zero_le _,Nat.zero_le _,fun d hd=>(by cases hd),Nat.zero_le _,fun d hd=>(by cases hd),fun d hd=>(by cases hd)⟩
theorem lop_bm4 {C:Ctx} {o:Oper} {σ:St} {T:TypeId} {x0 x1 x2 x3:Operand} {a f t s:Int} {fs:List (Nat × Nat)} {z:List Value} (ho:o.op=.build T #[(0,x0),(1,x1),(2,x2),(3,x3)]) (hF:TF C.P T fs) (hz:TZ C.P T z) (g0:σ.look x0=.p (.i a)) (g1:σ.look x1=.p (.i f)) (g2:σ.look x2=.p (.i t)) (g3:σ.look x3=.p (.i s)) (h1:z.all (·.oneCell')=true)
  (hb:bfill (fun i=>fs[i]?) (z.map fun v=>.p (.v v)) [(0,[.p (.i a)]),(1,[.p (.i f)]),(2,[.p (.i t)]),(3,[.p (.i s)])]=some (mN a f t s 0)) (hd:dOk C o.dst=true):LOp C o σ ⟨.a (mN a f t s 0),[]⟩ (fun _=>false):=lop_build4 ho hF hz g0 g1 g2 g3 h1 hb hd
theorem lop_bm0 {C:Ctx} {o:Oper} {σ:St} {T:TypeId} {fs:List (Nat × Nat)} {z:List Value} (ho:o.op=.build T #[]) (hF:TF C.P T fs) (hz:TZ C.P T z) (h1:z.all (·.oneCell')=true)
  (hb:bfill (fun i=>fs[i]?) (z.map fun v=>.p (.v v)) []=some (mN 0 0 0 0 0)) (hd:dOk C o.dst=true):LOp C o σ ⟨.a (mN 0 0 0 0 0),[]⟩ (fun _=>false):=lop_build0 ho hF hz h1 hb hd
theorem lop_ba0 {C:Ctx} {o:Oper} {σ:St} {T:TypeId} {fs:List (Nat × Nat)} {z:List Value} (ho:o.op=.build T #[]) (hF:TF C.P T fs) (hz:TZ C.P T z) (h1:z.all (·.oneCell')=true)
  (hb:bfill (fun i=>fs[i]?) (z.map fun v=>.p (.v v)) []=some [.p (.i 0),.p (.i 0),.p (.v (.slice none 0 0))]) (hd:dOk C o.dst=true):LOp C o σ ⟨.a [.p (.i 0),.p (.i 0),.p (.v (.slice none 0 0))],[]⟩ (fun _=>false):=lop_build0 ho hF hz h1 hb hd
theorem lop_ba2 {C:Ctx} {o:Oper} {σ:St} {T:TypeId} {x0 x1:Operand} {p0 p1:PVal} {fs:List (Nat × Nat)} {z:List Value} (ho:o.op=.build T #[(0,x0),(2,x1)]) (hF:TF C.P T fs) (hz:TZ C.P T z) (g0:σ.look x0=.p p0) (g1:σ.look x1=.p p1) (h1:z.all (·.oneCell')=true)
  (hb:bfill (fun i=>fs[i]?) (z.map fun v=>.p (.v v)) [(0,[.p p0]),(2,[.p p1])]=some [.p p0,.p (.i 0),.p p1]) (hd:dOk C o.dst=true):LOp C o σ ⟨.a [.p p0,.p (.i 0),.p p1],[]⟩ (fun _=>false):=
 lop_buildx (ps:=[(0,[.p p0]),(2,[.p p1])]) ho hF hz (.cons ⟨rfl,_,g0,rfl⟩ (.cons ⟨rfl,_,g1,rfl⟩ .nil)) h1 hb hd
namespace O5
theorem lopC {C:Ctx} {o:Oper} {σ:St} {e:Eff} {ro:Nat→Bool} (h:LOp C o σ e ro:=by
  first|(apply lop_bm4;(focus rfl);(focus exact inferInstance);(focus exact inferInstance);(focus rfl);(focus rfl);(focus rfl);(focus rfl);(focus decide);(focus rfl);(focus rfl))|(apply lop_bm0;(focus rfl);(focus exact inferInstance);(focus exact inferInstance);(focus decide);(focus rfl);(focus rfl))|(apply lop_ba0;(focus rfl);(focus exact inferInstance);(focus exact inferInstance);(focus decide);(focus rfl);(focus rfl))|(apply lop_ba2;(focus rfl);(focus exact inferInstance);(focus exact inferInstance);(focus rfl);(focus rfl);(focus decide);(focus rfl);(focus rfl))|exact O4.lopC|fail):LOp C o σ e ro:=h
section steps
variable {C:Ctx} {ops:Array Oper} {o:Oper} {rest:List Oper} {K:St→Prop} {σ:St} {e:Eff} {ro:Nat→Bool} {W:List (Nat × Nat)} {i:Nat}
theorem rnC {d:Nat} (hg:Guard ops σ o true:=by first|exact gd_n rfl rfl|exact gd_t rfl rfl rfl rfl|exact gd_t rfl rfl rfl (by assumption)) (hd:o.dst=some d:=by rfl) (h:LOp C o σ e ro:=by exact lopC) (hk:RunN C ops rest K (e.app (some d) σ)):RunN C ops (o::rest) K σ:=rn_any hg hd h hk
theorem rkC {d:Nat} (hg:Guard ops σ o true:=by first|exact gd_n rfl rfl|exact gd_t rfl rfl rfl rfl|exact gd_t rfl rfl rfl (by assumption)) (hd':o.dst=some d:=by rfl) (hd:dOk C o.dst=true:=by rfl) (h:LOp C o σ e ro:=by exact lopC) (hro:∀ x,ro x=true→okObj ops W i x=true:=by first|exact fun _=>ro_none|exact ro_one rfl|exact ro_k1 rfl|exact ro_one (by kernel_rfl)|exact ro_k1 (by kernel_rfl)|exact ro_kIn (by decide)) (hob:∀ p∈e.obj,(i,p.1)∈W:=by first|exact ob_none|exact ob_one (by decide)|decide) (hk:RunK C ops W (i+1) rest K (e.app (some d) σ)):RunK C ops W i (o::rest) K σ:=rk_wr hg hd' hd h hro hob hk
end steps
end O5
open O5
open O3 (rnSH rkSH stoH3)
theorem alive29_w:PCall Tryz.prog 8 [] (.p (.b true)):=by
 refine pcall_of Tryz.func8 rfl (fun w0 F S0 M0=>?_)
 obtain ⟨M,hM⟩:∃ M:Msg,M=mZ 4 1 2 3 0:=⟨_,rfl⟩
 have z32:(zeroD.map bcD).length=32:=rfl
 have m32:M.dig.length=32:=by rw [hM];rfl
 have hr:rightM M=true:=by rw [hM];decide
 have mi:MIn M:=by rw [hM];exact mZ_in
 haveI j1:∀ q g n:Nat,OC Tryz.prog 17 [.o (.ptr q g 0),.a (mN 4 1 2 3 0),.p (.i 2)] [(q,(n,some (bxM ⟨[],[],0⟩)))] [] (n=g+1) (.p (.i 0)) [(q,(n,some (bxM ⟨[(M,2)],[],0⟩)))]:=fun q g n=>⟨fun h=>by
  have k:=(obSend_i (c:=q) (g:=g) (n:=n) (b:=⟨[],[],0⟩) (m:=M) (k:=2)).call ⟨h,mi,by decide,Int.le_refl _,by show (0:Int)≤1000000;decide⟩
  have e1:sendE M 2=0:=by unfold sendE;rw [hr];rfl
  rw [show sendB ⟨[],[],0⟩ M 2=⟨[(M,2)],[],0⟩ by unfold sendB;rw [if_pos e1];rfl,e1] at k
  exact k.ent (.cons Ent1.refl (.cons (by rw [hM];exact mN_ent) (.cons Ent1.refl .nil)))⟩
 haveI j2:∀ q g n:Nat,OC Tryz.prog 18 [.o (.ptr q g 0),.a [.p (.i 5),.p (.i 0),.p (.sl 1 [[.i 6]] true)],.p (.i 1)] [(q,(n,some (bxM ⟨[(M,2)],[],0⟩)))] [] (n=g+1) (.p (.i 0)) [(q,(n,some (bxM ⟨[(M,2)],[((5,0,[6]),1)],0⟩)))]:=fun q g n=>⟨fun h=>by
  have k:=(obTell_i (c:=q) (g:=g) (n:=n) (b:=⟨[(M,2)],[],0⟩) (a:=(5,0,[6])) (k:=1)).call ⟨h,by show (0:Nat) < 500000;decide,by decide⟩
  exact k.ent (.cons Ent1.refl (.cons (Ent1.cells (cs:=[.i 5,.i 0,.sl 1 [[.i 6]] true]) (ds:=[.i 5,.i 0,.sl 1 [[.i 6]] false]) (.cons .refl (.cons .refl (.cons PE.ex .nil)))) (.cons Ent1.refl .nil)))⟩
 haveI j3:∀ q g n:Nat,OC Tryz.prog 17 [.o (.ptr q g 0),.a (mN 0 0 0 0 0),.p (.i 0)] [(q,(n,some (bxM ⟨[(M,2)],[((5,0,[6]),1)],0⟩)))] [] (n=g+1) (.p (.i 3)) [(q,(n,some (bxM ⟨[(M,2)],[((5,0,[6]),1)],0⟩)))]:=fun q g n=>⟨fun h=>by
  have k:=(obSend_i (c:=q) (g:=g) (n:=n) (b:=⟨[(M,2)],[((5,0,[6]),1)],0⟩) (m:=mZ 0 0 0 0 0) (k:=0)).call ⟨h,mZ_in,by show (1:Nat)≤500;decide,Int.le_refl _,by show (0:Int)≤1000000;decide⟩
  have e1:sendE (mZ 0 0 0 0 0) 0=3:=by decide
  rw [show sendB ⟨[(M,2)],[((5,0,[6]),1)],0⟩ (mZ 0 0 0 0 0) 0=⟨[(M,2)],[((5,0,[6]),1)],0⟩ by unfold sendB;rw [e1];rfl,e1] at k
  exact k.ent (.cons Ent1.refl (.cons mN_ent (.cons Ent1.refl .nil)))⟩
 haveI j4:∀ q g n:Nat,OC Tryz.prog 18 [.o (.ptr q g 0),.a [.p (.i 0),.p (.i 0),.p (.v (.slice none 0 0))],.p (.i (-1))] [(q,(n,some (bxM ⟨[(M,2)],[((5,0,[6]),1)],0⟩)))] [] (n=g+1) (.p (.i 1)) [(q,(n,some (bxM ⟨[(M,2)],[((5,0,[6]),1)],0⟩)))]:=fun q g n=>⟨fun h=>by
  have k:=(obTell_i (c:=q) (g:=g) (n:=n) (b:=⟨[(M,2)],[((5,0,[6]),1)],0⟩) (a:=(0,0,[])) (k := -1)).call ⟨h,by show (1:Nat) < 500000;decide,by decide⟩
  exact k.ent (.cons Ent1.refl (.cons (Ent1.cells (cs:=[.i 0,.i 0,.v (.slice none 0 0)]) (ds:=[.i 0,.i 0,.sl 1 [] false]) (.cons .refl (.cons .refl (.cons PE.nil .nil)))) (.cons Ent1.refl .nil)))⟩
 have dg:∀ (v:Int),∀ h∈[((M,v):Hm)],h.1.dig.length=32:=fun v h hh=>by rw [List.mem_singleton] at hh;rw [hh];exact m32
 haveI j5:∀ q g n:Nat,OC Tryz.prog 14 [.o (.ptr q g 0),.p (.i 1)] [(q,(n,some (bxM ⟨[(M,2)],[((5,0,[6]),1)],0⟩)))] [] (n=g+1) (.p (.sl 40 [] false)) [(q,(n,some (bxM ⟨[(M,2)],[((5,0,[6]),1)],0⟩)))]:=fun q g n=>⟨fun h=>(obOut_i (c:=q) (g:=g) (n:=n) (b:=⟨[(M,2)],[((5,0,[6]),1)],0⟩) (s:=1)).call ⟨h,by show (1:Nat)≤1000000;decide,dg 2⟩⟩
 haveI j6:∀ q g n:Nat,OC Tryz.prog 19 [.o (.ptr q g 0),.p (.i 1)] [(q,(n,some (bxM ⟨[(M,2)],[((5,0,[6]),1)],0⟩)))] [] (n=g+1) (.p (.sl 3 [[.i 5,.i 0,.sl 1 [[.i 6]] false]] false)) [(q,(n,some (bxM ⟨[(M,2)],[],0⟩)))]:=fun q g n=>⟨fun h=>(obTold_i (c:=q) (g:=g) (n:=n) (b:=⟨[(M,2)],[((5,0,[6]),1)],0⟩) (s:=1)).call ⟨h,by show (1:Nat)≤1000000;decide⟩⟩
 haveI j7:∀ q g n:Nat,OC Tryz.prog 10 [.o (.ptr q g 0)] [(q,(n,some (bxM ⟨[(M,2)],[],0⟩)))] [] (n=g+1) (.tup [.one (.p (.i 1)),.one (.p (.i 0))]) [(q,(n,some (bxM ⟨[(M,2)],[],0⟩)))]:=fun q g n=>⟨fun h=>(obWaits_i (c:=q) (g:=g) (n:=n) (b:=⟨[(M,2)],[],0⟩)).call h⟩
 haveI j8:∀ q g n:Nat,OC Tryz.prog 16 [.o (.ptr q g 0)] [(q,(n,some (bxM ⟨[(M,2)],[],0⟩)))] [] (n=g+1) (.tup []) [(q,(n,some (bxM ⟨[(M,0)],[],0⟩)))]:=fun q g n=>⟨fun h=>(obShift_i (c:=q) (g:=g) (n:=n) (b:=⟨[(M,2)],[],0⟩)).call ⟨h,by show (1:Nat)≤1000000;decide,Nat.zero_le _,dg 2⟩⟩
 haveI j9:∀ q g n:Nat,OC Tryz.prog 14 [.o (.ptr q g 0),.p (.i 0)] [(q,(n,some (bxM ⟨[(M,0)],[],0⟩)))] [] (n=g+1) (.p (.sl 40 [mR M] false)) [(q,(n,some (bxM ⟨[],[],0⟩)))]:=fun q g n=>⟨fun h=>(obOut_i (c:=q) (g:=g) (n:=n) (b:=⟨[(M,0)],[],0⟩) (s:=0)).call ⟨h,by show (1:Nat)≤1000000;decide,dg 0⟩⟩
 haveI j0:∀ q g n:Nat,OC Tryz.prog 11 [.o (.ptr q g 0)] [(q,(n,some (bxM ⟨[],[],0⟩)))] [] (n=g+1) (.p (.i 0)) [(q,(n,some (bxM ⟨[],[],0⟩)))]:=fun q g n=>⟨fun h=>(obLost_i (c:=q) (g:=g) (n:=n) (b:=⟨[],[],0⟩)).call h⟩
 have ks:PCall Tryz.prog 37 [mV M,.a (mN 4 1 2 3 0)] (.p (.b true)):=by
  have h:=psame_w M M mi mi
  rw [sameM_refl] at h
  exact h.ent (.cons Ent1.refl (.cons (by rw [hM];exact mN_ent) .nil))
 haveI is:PC Tryz.prog 37 [mV M,.a (mN 4 1 2 3 0)] True (.p (.b true)):=⟨fun _=>ks⟩
 clear hM hr mi dg ks
 repeat' (first|refine jx17 ?_|refine jy0 ?_ ?_|exact spF|refine spQ fun hq hq'=>?_|refine spN fun hn=>?_|fail)
 refine aws_draws [(52,12)] mixed (by kernel_rfl) ?_
 repeat' (first|refine jx21 ?_|refine jy1 ?_ ?_|exact spF|refine spQ fun hq hq'=>?_|fail)
 as_aux_lemma=>
  repeat' (first|refine jx17 ?_|refine jy0 ?_ ?_|exact spF|refine spQ fun hq hq'=>?_|refine spN fun hn=>?_|fail)
  exact rt1 rfl rfl finS_p rfl
end Go.Proofs.YtkgploeegbmofaaGreat.Wi
namespace Go.Aw
open Go Go.RowKit
set_option linter.unusedVariables false
def PVal.ln (n:Nat):PVal where
 holds X v:=∃ base cap,v=.slice base n cap
 mono:=fun _ h=>h
 one:=by rintro x v ⟨base,cap,rfl⟩;rfl
section
variable {C:Ctx} {o:Oper} {σ:St} {T:TypeId} {x:Operand} {k:TK} {sz by_ ob g n ty i:Nat}
theorem lop_ld_ex {α:Type} {f:α→List Pc} {p:PVal} (ho:o.op=.load T x) (hT:TI C.P T k sz by_) (hx:σ.look x=.o (.ptr ob g i)) (hm:σ.mem ob=(n,some (.abs (exA fun y=>pkN ty (f y))))) (hn:n=g+1) (hk:k.agg=false) (hs:sz=1)
  (hp:∀ y,∃ c,(f y)[i]?=some c∧∀ X v fp,c.holds X v fp→p.holds X v) (hd:dOk C o.dst=true):LOp C o σ ⟨.p p,[]⟩ (fun y=>y == ob):=
 lop_val hd fun τ a w G hl hm' h=>by
  subst hn
  obtain ⟨b,c,k1,k2⟩:=look_of h ((hl x (by simp [ho,Op.operands])).trans hx)
  obtain ⟨g',m,hg,hmm,b',e1,y,vs,fs,K⟩:=h.mem ob _ _ (by rw [hm' ob (by simp)];exact hm)
  obtain rfl:g=g':=by omega
  rw [k1] at hmm;obtain rfl:=Option.some.inj hmm
  simp only [Option.some.injEq] at e1
  subst e1
  obtain ⟨cl,h1,h2⟩:=hp y
  have hi:i < (f y).length:=(List.getElem?_eq_some_iff.1 h1).1
  have hiv:i < vs.length:=by rw [K.vl];exact hi
  have hif:i < fs.length:=by rw [K.fl];exact hi
  have hh:=h2 _ _ _ (K.get i cl vs[i] fs[i] h1 (List.getElem?_eq_getElem hiv) (List.getElem?_eq_getElem hif))
  have hr:=run_loadVar hT K.heap (off:=i) (by omega) (fun _=>hs)
  simp only [hk,Bool.false_eq_true,if_false] at hr
  have e:vs.getD i undef=vs[i]:=by simp [List.getD_eq_getElem?_getD,hiv]
  rw [e] at hr
  exact ⟨vs[i],by simp [execOp,ho,k2,Instr.loadAt,Instr.sureAddr,hr],hh⟩
theorem lop_len_ln {e:TypeId} {m:Nat} (ho:o.op=.call ⟨.builtin .len,#[x],#[T]⟩) (hT:TI C.P T (.slice e) sz by_) (hx:σ.look x=.p (.ln m)) (hd:dOk C o.dst=true):LOp C o σ ⟨.p (.i (m:Int)),[]⟩ (fun _=>false):=
 lop_val hd fun τ a w G hl hm' h=>by
  obtain ⟨base,cap,h1⟩:=look_of h ((hl x (by simp [ho,Op.operands,Call.operands])).trans hx)
  obtain ⟨d,hdd,hkk⟩:=hT.undd
  have:d=.slice e:=by cases d<;>simp [TK.of] at hkk;rw [hkk]
  subst this
  exact ⟨.int .i64 m,by simp [execOp,ho,resolve,invoke,builtin,Builtin.len_,h1,run_underlying hdd,goInt],rfl,rfl⟩
end
end Go.Aw
namespace Go.Proofs.YtkgploeegbmofaaGreat.Wi
open Go Go.RowKit Go.Aw Go.Aw.Cart Go.Aw.Tree Go.Proofs.YtkgploeegbmofaaGreat.Ca Go.Proofs.YtkgploeegbmofaaGreat.Rg
set_option linter.unusedVariables false
set_option linter.unusedSimpArgs false
set_option maxRecDepth 8000
set_option maxHeartbeats 4000000
abbrev nilP:AV:=.p (.v (.pointer none))
abbrev nilS:PVal:=.v (.slice none 0 0)
abbrev zbM (p q:PVal):MO:=.box 55 [.p (.b false),.p p,.p q,.p (.i 0)]
open O5
open O3 (rnSH rkSH stoH3)
theorem nShift_w:PCall Tryz.prog 16 [nilP] (.tup []):=by
 refine pcall_of Tryz.func16 rfl (fun w0 F S0 M0=>?_)
 as_aux_lemma=>
  repeat' (first|refine jx17 ?_|refine jy0 ?_ ?_|exact spF|refine spQ fun hq hq'=>?_|refine spN fun hn=>?_|fail)
  exact res0 rfl rfl
theorem nWaits_w:PCall Tryz.prog 10 [nilP] (.tup [.one (.p (.i 0)),.one (.p (.i 0))]):=by
 refine pcall_of Tryz.func10 rfl (fun w0 F S0 M0=>?_)
 as_aux_lemma=>
  repeat' (first|refine jx17 ?_|refine jy0 ?_ ?_|exact spF|refine spQ fun hq hq'=>?_|refine spN fun hn=>?_|fail)
  exact rt2 rfl rfl finS_p rfl finS_p rfl
theorem nLost_w:PCall Tryz.prog 11 [nilP] (.p (.i 0)):=by
 refine pcall_of Tryz.func11 rfl (fun w0 F S0 M0=>?_)
 as_aux_lemma=>
  repeat' (first|refine jx17 ?_|refine jy0 ?_ ?_|exact spF|refine spQ fun hq hq'=>?_|refine spN fun hn=>?_|fail)
  exact rt1 rfl rfl finS_p rfl
theorem nOut_w:PCall Tryz.prog 14 [nilP,.p (.i 5)] (.p nilS):=by
 refine pcall_of Tryz.func14 rfl (fun w0 F S0 M0=>?_)
 as_aux_lemma=>
  repeat' (first|refine jx17 ?_|refine jy0 ?_ ?_|exact spF|refine spQ fun hq hq'=>?_|refine spN fun hn=>?_|fail)
  exact rt1 rfl rfl finS_p rfl
theorem nTold_w:PCall Tryz.prog 19 [nilP,.p (.i 5)] (.p nilS):=by
 refine pcall_of Tryz.func19 rfl (fun w0 F S0 M0=>?_)
 as_aux_lemma=>
  repeat' (first|refine jx17 ?_|refine jy0 ?_ ?_|exact spF|refine spQ fun hq hq'=>?_|refine spN fun hn=>?_|fail)
  exact rt1 rfl rfl finS_p rfl
theorem nAsk_w (m:Int):PCall Tryz.prog 47 [nilP,.p (.i m)] (.p (.i 6)):=by
 refine pcall_of Tryz.func47 rfl (fun w0 F S0 M0=>?_)
 as_aux_lemma=>
  repeat' (first|refine jx17 ?_|refine jy0 ?_ ?_|exact spF|refine spQ fun hq hq'=>?_|refine spN fun hn=>?_|fail)
  exact rt1 rfl rfl finS_p rfl
instance nAsk_i {m:Int}:PC Tryz.prog 47 [nilP,.p (.i m)] True (.p (.i 6)):=⟨fun _=>nAsk_w m⟩
theorem nSend_w:PCall Tryz.prog 17 [nilP,.a (mN 0 0 0 0 0),.p (.i 0)] (.p (.i 6)):=by
 refine pcall_of Tryz.func17 rfl (fun w0 F S0 M0=>?_)
 as_aux_lemma=>
  repeat' (first|refine jx17 ?_|refine jy0 ?_ ?_|exact spF|refine spQ fun hq hq'=>?_|refine spN fun hn=>?_|fail)
  exact rt1 rfl rfl finS_p rfl
theorem nTell_w:PCall Tryz.prog 18 [nilP,.a [.p (.i 0),.p (.i 0),.p nilS],.p (.i 0)] (.p (.i 6)):=by
 refine pcall_of Tryz.func18 rfl (fun w0 F S0 M0=>?_)
 as_aux_lemma=>
  repeat' (first|refine jx17 ?_|refine jy0 ?_ ?_|exact spF|refine spQ fun hq hq'=>?_|refine spN fun hn=>?_|fail)
  exact rt1 rfl rfl finS_p rfl
theorem zAsk_o (n:Nat) (m:Int):OCall Tryz.prog 47 [.o (.ptr 1000 n 0),.p (.i m)] (memL [(1000,(n+1,some (zbM nilS nilS)))]) (.p (.i 6)) (memL [(1000,(n+1,some (zbM nilS nilS)))]):=by
 refine ocall_of1 Tryz.func47 rfl (fun w0 F S0 M0=>?_)
 as_aux_lemma=>
  repeat' (first|refine jx17 ?_|refine jy0 ?_ ?_|exact spF|refine spQ fun hq hq'=>?_|refine spN fun hn=>?_|fail)
  exact RetO.mk (ot1 rfl rfl finS_p rfl) ⟨.box (.cons .p (.cons .p (.cons .p (.cons .p .nil)))),trivial⟩
instance zAsk_i {c g n:Nat} {m:Int}:OC Tryz.prog 47 [.o (.ptr c g 0),.p (.i m)] [(c,(n,some (zbM nilS nilS)))] [] (n=g+1) (.p (.i 6)) [(c,(n,some (zbM nilS nilS)))]:=⟨fun h=>by obtain rfl:=h;exact (zAsk_o g m).one c⟩
end Go.Proofs.YtkgploeegbmofaaGreat.Wi
namespace Go.Proofs.YtkgploeegbmofaaGreat.Wi
open Go Go.RowKit Go.Aw Go.Aw.Cart Go.Aw.Tree Go.Proofs.YtkgploeegbmofaaGreat.Ca Go.Proofs.YtkgploeegbmofaaGreat.Rg
set_option linter.unusedVariables false
set_option linter.unusedSimpArgs false
set_option maxRecDepth 8000
set_option maxHeartbeats 4000000
open O5
open O3 (rnSH rkSH stoH3)
abbrev boxN {σ:St} {K:Nat→Bool} {n:Nat} {a b c d:PVal}:FinM σ K (n,some (.box 55 [.p a,.p b,.p c,.p d])) (n,some (.box 55 [.p a,.p b,.p c,.p d])):=.box (.cons .p (.cons .p (.cons .p (.cons .p .nil))))
theorem zShift_o (n:Nat):OCall Tryz.prog 16 [.o (.ptr 1000 n 0)] (memL [(1000,(n+1,some (zbM nilS nilS)))]) (.tup []) (memL [(1000,(n+1,some (zbM nilS nilS)))]):=by
 refine ocall_of1 Tryz.func16 rfl (fun w0 F S0 M0=>?_)
 repeat' (first|refine jx17 ?_|refine jy0 ?_ ?_|exact spF|refine spQ fun hq hq'=>?_|refine spN fun hn=>?_|fail)
 refine aws_loopS [2,11,12,13,14,15,16,17,18,19,20,21] [] (fun (i:Nat)=>[(11,.p (.i 0))]) (fun _=>[]) (fun i=>True) (fun i=>0) 0 trivial (by exact knA) (by exact knA) ?_
 rintro i β γ -
 repeat' (first|refine jx17 ?_|refine jy0 ?_ ?_|exact spF|refine spQ fun hq hq'=>?_|refine spN fun hn=>?_|fail)
 refine aws_loopS [3,27,28,29,30,31,32,33,34,35,36,37] [] (fun (i:Nat)=>[(27,.p (.i 0))]) (fun _=>[]) (fun i=>True) (fun i=>0) 0 trivial (by exact knA) (by exact knA) ?_
 rintro i β γ -
 as_aux_lemma=>
  repeat' (first|refine jx17 ?_|refine jy0 ?_ ?_|exact spF|refine spQ fun hq hq'=>?_|refine spN fun hn=>?_|fail)
  exact RetO.mk (res0 rfl rfl) ⟨boxN,trivial⟩
theorem zShift_i {c g n:Nat}:OC Tryz.prog 16 [.o (.ptr c g 0)] [(c,(n,some (zbM nilS nilS)))] [] (n=g+1) (.tup []) [(c,(n,some (zbM nilS nilS)))]:=⟨fun h=>by obtain rfl:=h;exact (zShift_o g).one c⟩
theorem zSend_o (n:Nat):OCall Tryz.prog 17 [.o (.ptr 1000 n 0),.a (mN 0 0 0 0 0),.p (.i 0)] (memL [(1000,(n+1,some (zbM nilS nilS)))]) (.p (.i 6)) (memL [(1000,(n+1,some (zbM nilS nilS)))]):=by
 refine ocall_of1 Tryz.func17 rfl (fun w0 F S0 M0=>?_)
 as_aux_lemma=>
  repeat' (first|refine jx17 ?_|refine jy0 ?_ ?_|exact spF|refine spQ fun hq hq'=>?_|refine spN fun hn=>?_|fail)
  exact RetO.mk (ot1 rfl rfl finS_p rfl) ⟨boxN,trivial⟩
theorem zSend_i {c g n:Nat}:OC Tryz.prog 17 [.o (.ptr c g 0),.a (mN 0 0 0 0 0),.p (.i 0)] [(c,(n,some (zbM nilS nilS)))] [] (n=g+1) (.p (.i 6)) [(c,(n,some (zbM nilS nilS)))]:=⟨fun h=>by obtain rfl:=h;exact (zSend_o g).one c⟩
theorem zTell_o (n:Nat):OCall Tryz.prog 18 [.o (.ptr 1000 n 0),.a [.p (.i 0),.p (.i 0),.p nilS],.p (.i 0)] (memL [(1000,(n+1,some (zbM nilS nilS)))]) (.p (.i 6)) (memL [(1000,(n+1,some (zbM nilS nilS)))]):=by
 refine ocall_of1 Tryz.func18 rfl (fun w0 F S0 M0=>?_)
 as_aux_lemma=>
  repeat' (first|refine jx17 ?_|refine jy0 ?_ ?_|exact spF|refine spQ fun hq hq'=>?_|refine spN fun hn=>?_|fail)
  exact RetO.mk (ot1 rfl rfl finS_p rfl) ⟨boxN,trivial⟩
theorem zTell_i {c g n:Nat}:OC Tryz.prog 18 [.o (.ptr c g 0),.a [.p (.i 0),.p (.i 0),.p nilS],.p (.i 0)] [(c,(n,some (zbM nilS nilS)))] [] (n=g+1) (.p (.i 6)) [(c,(n,some (zbM nilS nilS)))]:=⟨fun h=>by obtain rfl:=h;exact (zTell_o g).one c⟩
theorem zOut_o (n:Nat):OCall Tryz.prog 14 [.o (.ptr 1000 n 0),.p (.i 5)] (memL [(1000,(n+1,some (zbM nilS nilS)))]) (.p (.sl 40 [] false)) (memL [(1000,(n+1,some (zbM (.sl 41 [] false) nilS)))]):=by
 refine ocall_of1 Tryz.func14 rfl (fun w0 F S0 M0=>?_)
 haveI i1:∀ c m:Nat,OC Tryz.prog 46 [.p nilS,.p (.i 5)] [] [(c,m)] True (.tup [.one (.p (.sl 40 [] false)),.one (.osl c m 41 0 0)]) [(c,(m+1,some (.buf 103 41 [])))]:=fun c m=>⟨fun _=>((splitM_o [] false 5 (Nat.zero_le _) (fun h hh=>by cases hh)).fresh1 c m).ent (.cons Ent1.nil (.cons Ent1.refl .nil))⟩
 repeat' (first|refine jx18 ?_|refine jy0 ?_ ?_|exact spF|refine spQ fun hq hq'=>?_|refine spN fun hn=>?_|fail)
 refine aws_says (says_frz_lo (p:=1000) (o:=15) (k:=1) (lo:=0) (len:=0) (rows:=[]) (ds:=[.p (.b false),.p (.sl 41 [] false),.p nilS,.p (.i 0)]) rfl rfl rfl rfl rfl rfl (by decide)) ?_
 as_aux_lemma=>
  repeat' (first|refine jx17 ?_|refine jy0 ?_ ?_|exact spF|refine spQ fun hq hq'=>?_|refine spN fun hn=>?_|fail)
  exact RetO.mk (ot1 rfl rfl finS_p rfl) ⟨boxN,trivial⟩
theorem zOut_i {c g n:Nat}:OC Tryz.prog 14 [.o (.ptr c g 0),.p (.i 5)] [(c,(n,some (zbM nilS nilS)))] [] (n=g+1) (.p (.sl 40 [] false)) [(c,(n,some (zbM (.sl 41 [] false) nilS)))]:=⟨fun h=>by obtain rfl:=h;exact (zOut_o g).one c⟩
theorem zTold_o (n:Nat):OCall Tryz.prog 19 [.o (.ptr 1000 n 0),.p (.i 5)] (memL [(1000,(n+1,some (zbM (.sl 41 [] false) nilS)))]) (.p (.sl 3 [] false)) (memL [(1000,(n+1,some (zbM (.sl 41 [] false) (.sl 4 [] false))))]):=by
 refine ocall_of1 Tryz.func19 rfl (fun w0 F S0 M0=>?_)
 haveI i1:∀ c m:Nat,OC Tryz.prog 51 [.p nilS,.p (.i 5)] [] [(c,m)] True (.tup [.one (.p (.sl 3 [] false)),.one (.osl c m 4 0 0)]) [(c,(m+1,some (.buf 105 4 [])))]:=fun c m=>⟨fun _=>((splitA_o [] false 5 (Nat.zero_le _)).fresh1 c m).ent (.cons Ent1.nil (.cons Ent1.refl .nil))⟩
 repeat' (first|refine jx18 ?_|refine jy0 ?_ ?_|exact spF|refine spQ fun hq hq'=>?_|refine spN fun hn=>?_|fail)
 refine aws_says (says_frz_lo (p:=1000) (o:=15) (k:=2) (lo:=0) (len:=0) (rows:=[]) (ds:=[.p (.b false),.p (.sl 41 [] false),.p (.sl 4 [] false),.p (.i 0)]) rfl rfl rfl rfl rfl rfl (by decide)) ?_
 as_aux_lemma=>
  repeat' (first|refine jx17 ?_|refine jy0 ?_ ?_|exact spF|refine spQ fun hq hq'=>?_|refine spN fun hn=>?_|fail)
  exact RetO.mk (ot1 rfl rfl finS_p rfl) ⟨boxN,trivial⟩
theorem zTold_i {c g n:Nat}:OC Tryz.prog 19 [.o (.ptr c g 0),.p (.i 5)] [(c,(n,some (zbM (.sl 41 [] false) nilS)))] [] (n=g+1) (.p (.sl 3 [] false)) [(c,(n,some (zbM (.sl 41 [] false) (.sl 4 [] false))))]:=⟨fun h=>by obtain rfl:=h;exact (zTold_o g).one c⟩
end Go.Proofs.YtkgploeegbmofaaGreat.Wi
