/- a list as the reference's -/
import Derived.Test.YtkgploeegbmofaaGreatOVA19
import Derived.Test.YtkgploeegbmofaaGreatOVA15
import Derived.Test.YtkgploeegbmofaaGreatOVA10
import Derived.Test.YtkgploeegbmofaaGreatOVA20
import Derived.Test.YtkgploeegbmofaaGreatOVA17
import Derived.Test.YtkgploeegbmofaaGreatOVA18
import Derived.Test.YtkgploeegbmofaaGreatOVA27
import Derived.Test.YtkgploeegbmofaaGreatOVA28
import Derived.Test.YtkgploeegbmofaaGreatOVA01
import Derived.Test.YtkgploeegbmofaaGreatOVA05
import Derived.Test.YtkgploeegbmofaaGreatOVA06
import Derived.Test.YtkgploeegbmofaaGreatOVA26
namespace Go.Proofs.YtkgploeegbmofaaGreat.Wi
open Go Go.RowKit Go.Aw Go.Aw.Cart Go.Proofs.YtkgploeegbmofaaGreat.Ca
set_option linter.unusedVariables false
set_option linter.unusedSimpArgs false
set_option maxRecDepth 8000
set_option maxHeartbeats 4000000
open W9
theorem asK_w (l:List Kd) (ex:Bool) (hl:l.length≤100000) (hin:∀ k∈l,KdI k) (hf:∀ k∈l,k.2.2.length≤1000000):PCall Tryz.prog 85 [.p (.sl 10 (l.map kR) ex)] (.p (.sl 10 (l.map kR) false)):=by
 refine pcall_of Tryz.func85 rfl (fun w0 F S0 M0=>?_)
 repeat' (first|refine jx5 ?_|refine jy0 ?_ ?_|exact spF|refine spQ fun hq hq'=>?_|refine spN fun hn=>?_|fail)
 refine aws_says (says_nil (t:=3) (o:=901) (ty:=200) (es:=10) rfl rfl (by decide)) ?_
 refine aws_loopS [3,4,5,6,7,8,9,10,11,12,13,14,15,16,17,18,19,20,21,22,23,24,25] [901] (fun (x:Nat × List Kd)=>[(4,.p (.i x.1)),(3,.o (.osl 901 x.1 10 0 x.2.length))]) (fun x=>[(901,(x.1+1,some (.buf 200 10 (x.2.map kR))))])
  (fun x=>x.1≤l.length∧x.2=l.take x.1) (fun x=>l.length - x.1) (0,[]) ⟨Nat.zero_le _,rfl⟩ (by exact knA) (by exact knA) ?_
 rintro ⟨i,m⟩ β γ ⟨hi,hm⟩
 dsimp only at hi hm ⊢
 have hml:m.length=i:=by rw [hm,List.length_take];omega
 by_cases hil:i < l.length
 ·have hd:decide ((i:Int) < (l.length:Int))=true:=decide_eq_true (by omega)
  have ei:(i:Int).toNat=i:=Int.toNat_natCast i
  have hk:l.getD (i:Int).toNat default∈l:=by rw [ei,getD_at hil];exact List.getElem_mem _
  have ca:=Cr.as_r (l.getD (i:Int).toNat default).2.1 (l.getD (i:Int).toNat default).2.2 false (hf _ hk)
  haveI:PC Tryz.prog 127 [cV (l.getD (i:Int).toNat default).2.1 (l.getD (i:Int).toNat default).2.2 false] True (cV (l.getD (i:Int).toNat default).2.1 (l.getD (i:Int).toNat default).2.2 false):=⟨fun _=>ca⟩
  have hn:m++[l.getD (i:Int).toNat default]=l.take (i+1):=by rw [hm,take_get' hil,ei]
  clear ca hk hf hin hm
  repeat' (first|refine jx5 ?_|refine jy0 ?_ ?_|exact spF|refine spQ fun hq hq'=>?_|refine spN fun hn=>?_|fail)
  refine aws_draws [(14,901)] mixed (by kernel_rfl) ?_
  repeat' (first|refine jx7 ?_|refine jy1 ?_ ?_|exact spF|refine spQ fun hq hq'=>?_|fail)
  as_aux_lemma=>
   repeat' (first|refine jx5 ?_|refine jy0 ?_ ?_|exact spF|refine spQ fun hq hq'=>?_|refine spN fun hn=>?_|fail)
   exact ⟨(i+1,m++[l.getD (i:Int).toNat default]),_,by dsimp only;omega,⟨by dsimp only;omega,hn⟩,.refl,by exact frA⟩
 ·have hd:decide ((i:Int) < (l.length:Int))=false:=decide_eq_false (by omega)
  have hm':l=m:=by rw [hm,List.take_of_length_le (by omega)]
  rw [hm']
  rw [hm'] at hd
  clear hm' hm
  as_aux_lemma=>
   repeat' (first|refine jx5 ?_|refine jy0 ?_ ?_|exact spF|refine spQ fun hq hq'=>?_|refine spN fun hn=>?_|fail)
   exact rt1 rfl rfl (.one (finC_map rfl rfl rfl rfl)) rfl
end Go.Proofs.YtkgploeegbmofaaGreat.Wi
namespace Go.Aw
open Go Go.RowKit
end Go.Aw
namespace Go.Proofs.YtkgploeegbmofaaGreat.Wi
open Go Go.RowKit Go.Aw Go.Aw.Cart Go.Proofs.YtkgploeegbmofaaGreat.Ca
set_option linter.unusedVariables false
set_option linter.unusedSimpArgs false
set_option maxRecDepth 8000
set_option maxHeartbeats 4000000
open WE
end Go.Proofs.YtkgploeegbmofaaGreat.Wi
namespace Go.Proofs.YtkgploeegbmofaaGreat.Wi
open Go Go.RowKit Go.Aw Go.Aw.Cart Go.Proofs.YtkgploeegbmofaaGreat.Ca
set_option linter.unusedVariables false
set_option linter.unusedSimpArgs false
set_option maxRecDepth 8000
set_option maxHeartbeats 4000000
open WE
end Go.Proofs.YtkgploeegbmofaaGreat.Wi
namespace Go.Proofs.YtkgploeegbmofaaGreat.Wi
open Go Go.RowKit Go.Aw Go.Aw.Cart Go.Proofs.YtkgploeegbmofaaGreat.Ca
set_option linter.unusedVariables false
set_option linter.unusedSimpArgs false
theorem okB_app {a b:List Nat} (ha:okB a) (hb:okB b):okB (a++b):=fun c hc=>(List.mem_append.1 hc).elim (ha c) (hb c)
theorem okB_flat {α:Type} {f:α→List Nat} {l:List α} (h:∀ x∈l,okB (f x)):okB (l.flatMap f):=fun c hc=>by
 obtain ⟨x,hx,hc⟩:=List.mem_flatMap.1 hc
 exact h x hx c hc
theorem numB_ok (x:Nat):okB (numB x):=fun c hc=>by
 rcases List.mem_cons.1 hc with rfl|h
 ·have:=beF_le 8 x
  show (beF 8 x).length < 256
  omega
 ·exact beF_byte 8 x c h
theorem cartB_ok (c:Crt):okB (cartB c):=by
 refine okB_app (okB_flat fun n _=>numB_ok _) (okB_app (numB_ok _) (okB_flat fun e _=>?_))
 exact okB_app (numB_ok _) (okB_app (numB_ok _) (okB_app (numB_ok _) (numB_ok _)))
theorem listB_ok {l:List Kd} (h:∀ k∈l,okB k.1):okB (listB l):=
 okB_app (numB_ok _) (okB_flat fun k hk=>okB_app (okB_app (numB_ok _) (h k hk)) (cartB_ok _))
end Go.Proofs.YtkgploeegbmofaaGreat.Wi
namespace Go.Proofs.YtkgploeegbmofaaGreat.Wi
open Go Go.RowKit Go.Aw Go.Aw.Cart Go.Proofs.YtkgploeegbmofaaGreat.Ca
set_option linter.unusedVariables false
set_option linter.unusedSimpArgs false
set_option maxRecDepth 8000
set_option maxHeartbeats 4000000
open WE
end Go.Proofs.YtkgploeegbmofaaGreat.Wi
namespace Go.Proofs.YtkgploeegbmofaaGreat.Wi
open Go Go.RowKit Go.Aw Go.Aw.Cart Go.Aw.Tree Go.Proofs.YtkgploeegbmofaaGreat.Ca Go.Proofs.YtkgploeegbmofaaGreat.Rg
set_option linter.unusedVariables false
set_option linter.unusedSimpArgs false
set_option maxRecDepth 8000
set_option maxHeartbeats 4000000
theorem mright_w (m:Msg) (h:MIn m):PCall Tryz.prog 32 [mV m] (.p (.b (rightM m))):=mright_g m h (within_w m h)
theorem lop_ap_oo {C:Ctx} {o:Oper} {σ:St} {l m:List Nat} {T e ty:TypeId} {x y:Operand} {sz by_:Nat} {ke:TK} {be:Nat} {z:List Value} {ob g n len ob2 g2 n2 len2:Nat} (ho:o.op=.call ⟨.builtin .append,#[x,y],#[T,T]⟩) (hT:TI C.P T (.slice e) sz by_) (he:TI C.P e ke 1 be) (hz:TZ C.P e z)
  (hx:σ.look x=.o (.osl ob g 1 0 len)) (hm:σ.mem ob=(n,some (.buf e 1 (m.map bR)))) (hn:n=g+1) (hlr:len=m.length) (hy:σ.look y=.o (.osl ob2 g2 1 0 len2)) (hm2:σ.mem ob2=(n2,some (.buf ty 1 (l.map bR)))) (hn2:n2=g2+1) (hl2:len2=l.length)
  (hzl:z.length=1) (h63:m.length+l.length≤maxLen) (hby:(m.length+l.length) * be≤140737488355328) (hd:dOk C o.dst=true) :
  LOp C o σ ⟨.o (.osl ob n 1 0 (m++l).length),[(ob,(n+1,some (.buf e 1 ((m++l).map bR))))]⟩ (fun q=>q == ob2||q == ob):=by
 subst hl2
 have hsrc:=src_osl (C:=C) (lo:=0) (len:=l.length) hy hm2 hn2 (by rw [List.length_map];omega)
 rw [List.drop_zero,List.take_of_length_le (by rw [List.length_map];exact Nat.le_refl _)] at hsrc
 have:=lop_append_osl (o:=o) ho hx hm hn (by simpa using hlr) hsrc hzl (by rw [List.length_map,List.length_map];exact h63) (by rw [List.length_map,List.length_map];exact hby) hd
 simpa using this
theorem ocall_lm (q:Nat) {P:Program} {f:FuncId} {fn:Func} {body:Code} {args:List AV} {r:AV} {m0 m1 mq:Nat × Option MO} (hf:P.funcs[f]?=some fn) (hb:fn.body=some body)
  (h:∀ w0 F S0 M0,AWs ⟨P,w0,F,S0,max args.length fn.ntmps,none,M0⟩ [body] (RetO P fn r (kIn [(1000,m1),(q,mq)]) (memL [(1000,m1),(q,mq)])) ⟨fun t=>args.getD t .un,memL [(1000,m0)]⟩):OCall P f args (memL [(1000,m0)]) r (memL [(1000,m1),(q,mq)]):=by
 refine ocall_of (kIn [(1000,m1),(q,mq)]) hf hb (fun o ho=>?_) h
 have:o≠1000:=fun e=>by subst e;simp [kIn] at ho
 simp [memL,this]
theorem lop_cl {C:Ctx} {o:Oper} {σ:St} {f:FuncId} {x0:Operand} {ts:Array TypeId} {a0 r:AV} {c n d k:Nat} {mo:MO} {upds:List (Nat × (Nat × Option MO))} (ho:o.op=.call ⟨.value (.func f),#[x0],ts⟩) (hfn:FnT C.P f) (h0:σ.look x0=a0) (hc:OCAt C.P f [a0] [(c,(n,some mo))] [(d,k)] r upds)
  (hm:σ.mem c=(n,some mo)) (hfr:(σ.mem d).1=k) (hs:kIn upds c=true) (hs':kIn upds d=true) (hd:dOk C o.dst=true):LOp C o σ ⟨r,upds⟩ (kIn upds):=
 lop_ocall ho hfn (.cons h0 .nil) hc (fun p hp=>by simp at hp;subst hp;exact hm) (fun p hp=>by simp at hp;subst hp;exact hfr) (fun p hp=>by simp at hp;subst hp;exact hs) (fun p hp=>by simp at hp;subst hp;exact hs') hd
namespace T6
theorem lopC {C:Ctx} {o:Oper} {σ:St} {e:Eff} {ro:Nat→Bool} (h:LOp C o σ e ro:=by
  first|(apply lop_cl;(focus rfl);(focus exact inferInstance);(focus rfl);(focus assumption);(focus rfl);(focus rfl);(focus rfl);(focus rfl);(focus rfl))|(apply lop_bz;(focus rfl);(focus exact inferInstance);(focus exact inferInstance);(focus exact inferInstance);(focus rfl);(focus rfl);(focus rfl))|(apply lop_ap_oo;(focus rfl);(focus exact inferInstance);(focus exact inferInstance);(focus exact inferInstance);(focus rfl);(focus rfl);(focus rfl);(focus rfl);(focus rfl);(focus rfl);(focus rfl);(focus rfl);(focus rfl);(focus first|(simp only [maxLen,List.length_append,List.length_cons,List.length_nil,List.length_take,List.length_drop,List.length_map];omega)|omega);(focus first|(simp only [maxLen,List.length_append,List.length_cons,List.length_nil,List.length_take,List.length_drop,List.length_map];omega)|omega);(focus rfl))|exact T4.lopC|fail):LOp C o σ e ro:=h
section steps
variable {C:Ctx} {ops:Array Oper} {o:Oper} {rest:List Oper} {K:St→Prop} {σ:St} {e:Eff} {ro:Nat→Bool} {W:List (Nat × Nat)} {i:Nat}
theorem rnC {d:Nat} (hg:Guard ops σ o true:=by first|exact gd_n rfl rfl|exact gd_t rfl rfl rfl rfl|exact gd_t rfl rfl rfl (by assumption)) (hd:o.dst=some d:=by rfl) (h:LOp C o σ e ro:=by exact lopC) (hk:RunN C ops rest K (e.app (some d) σ)):RunN C ops (o::rest) K σ:=rn_any hg hd h hk
end steps
end T6
section
open T6
theorem cloneOO_o (n:Nat) (l:List Nat) (h:l.length≤1000000000):OCall Tryz.prog 131 [.o (.osl 1000 n 1 0 l.length)] (memL [(1000,(n+1,some (.buf 5 1 (l.map bR))))]) (.o (.osl 5 1 1 0 l.length)) (memL [(1000,(n+1,some (.buf 5 1 (l.map bR)))),(5,(2,some (.buf 5 1 (l.map bR))))]):=by
 refine ocall_lm 5 Tryz.func131 rfl (fun w0 F S0 M0=>?_)
 repeat' (first|refine jx8 ?_|refine jy0 ?_ ?_|exact spF|refine spQ fun hq hq'=>?_|refine spN fun hn=>?_|fail)
 ·have e:l=[]:=List.eq_nil_of_length_eq_zero hn
  subst e
  refine aws_says (says_bump (o:=5) (ty:=5) (es:=1) rfl (by decide)) ?_
  refine aws_says (says_nil (t:=2) (o:=5) (ty:=5) (es:=1) rfl rfl (by decide)) ?_
  as_aux_lemma=>
   repeat' (first|refine jx5 ?_|refine jy0 ?_ ?_|exact spF|refine spQ fun hq hq'=>?_|refine spN fun hn=>?_|fail)
   exact RetO.mk (ot1 rfl rfl (.one (.kosl rfl)) rfl) ⟨.buf,.buf,trivial⟩
 ·repeat' (first|refine jx5 ?_|refine jy0 ?_ ?_|exact spF|refine spQ fun hq hq'=>?_|refine spN fun hn=>?_|fail)
  exact RetO.mk (ot1 rfl rfl (.one (.kosl rfl)) rfl) ⟨.buf,.buf,trivial⟩
theorem bytesO_o (n:Nat) (bs:List Nat) (h:bs.length≤1000000000):OCall Tryz.prog 90 [.o (.ptr 1000 n 0)] (memL [(1000,(n+1,some (.abs (wrA bs))))]) (.o (.osl 9 1 1 0 bs.length)) (memL [(1000,(n+1,some (.abs (wrA bs)))),(9,(2,some (.buf 5 1 (bs.map bR))))]):=by
 refine ocall_lm 9 Tryz.func90 rfl (fun w0 F S0 M0=>?_)
 refine aws_says (says_unpack' (p:=1000) (o:=901) rfl rfl (List.length_map _) rfl (by decide)) ?_
 have hO:∀ g k:Nat,OCAt Tryz.prog 131 [.o (.osl 901 g 1 0 bs.length)] [(901,(g+1,some (.buf 5 1 (bs.map bR))))] [(9,k)] (.o (.osl 9 (k+1) 1 0 bs.length)) [(901,(g+1,some (.buf 5 1 (bs.map bR)))),(9,(k+2,some (.buf 5 1 (bs.map bR))))]:=fun g k=>(cloneOO_o g bs h).lf (by decide) 901 9 k (by decide)
 have hO0:=hO 0 0
 clear hO
 repeat' (first|refine jx8 ?_|refine jy0 ?_ ?_|exact spF|refine spQ fun hq hq'=>?_|refine spN fun hn=>?_|fail)
 refine aws_says (says_pack (p:=1000) (o:=901) (pre:=[]) (post:=[]) rfl rfl rfl rfl (by rw [List.length_map]) (by decide)) ?_
 as_aux_lemma=>
  repeat' (first|refine jx5 ?_|refine jy0 ?_ ?_|exact spF|refine spQ fun hq hq'=>?_|refine spN fun hn=>?_|fail)
  exact RetO.mk (ot1 rfl rfl (.one (.kosl rfl)) rfl) ⟨.abs,.buf,trivial⟩
end
structure MOk (m:Msg):Prop where
 kind:1≤m.kind∧m.kind≤7
 frm:1≤m.frm∧m.frm≤8
 to:1≤m.to∧m.to≤8
 ses:0≤m.ses∧m.ses≤1099511627776
 part:0≤m.part∧m.part < 8
 pls:∀ p∈m.pls,0≤p∧p≤20
 pl:m.pls.length≤16
 dl:m.dgs.length≤16
 kds:keysF m.kds=true
 own:m=ownM m
theorem levelF_cases {p n:Int} (h:levelF p=n) (h0:0≤n):(n=0∧p=0)∨(n=1∧1≤p∧p≤4)∨(n=2∧5≤p∧p≤20):=by
 unfold levelF at h
 split at h
 ·exact .inl ⟨h.symm,by assumption⟩
 ·split at h
  ·exact .inr (.inl ⟨h.symm,by assumption⟩)
  ·split at h
   ·exact .inr (.inr ⟨h.symm,by assumption⟩)
   ·omega
theorem lvl_up {l:List Int} {n:Int} (h:lvlF l n=true):∀ i:Nat,i < l.length→l.getD 0 default+i≤l.getD i default
 | 0,_=>by simp
 | i+1,hi=>by
  have ih:=lvl_up h i (by omega)
  have h1:=(of_decide_eq_true h).1 (i+1) hi
  unfold lvlAt at h1
  rw [Bool.and_eq_true,Bool.or_eq_true,decide_eq_true_iff,decide_eq_true_iff,decide_eq_true_iff] at h1
  rcases h1.2 with q|q
  ·omega
  ·rw [show i+1 - 1=i from rfl] at q;omega
theorem lvl_in {l:List Int} {n:Int} (h:lvlF l n=true):∀ i:Nat,i < l.length→levelF (l.getD i default)=n:=fun i hi=>by
 have h1:=(of_decide_eq_true h).1 i hi
 unfold lvlAt at h1
 rw [Bool.and_eq_true,decide_eq_true_iff] at h1
 exact h1.1
theorem lvl_fit {l:List Int} {n:Int} (h:lvlF l n=true) (h0:0≤n):(∀ p∈l,0≤p∧p≤20)∧l.length≤16∧(n≤1→l.length≤4):=by
 have hpos:=(of_decide_eq_true h).2
 refine ⟨fun p hp=>?_,?_⟩
 ·obtain ⟨i,hi,rfl⟩:=getD_mem hp
  have:=levelF_cases (lvl_in h i hi) h0
  omega
 ·have h1:=levelF_cases (lvl_in h 0 hpos) h0
  have h2:=levelF_cases (lvl_in h (l.length - 1) (by omega)) h0
  have h3:=lvl_up h (l.length - 1) (by omega)
  constructor
  ·omega
  ·intro hn;omega
theorem right_ok {m:Msg} (hr:rightM m=true):MOk m:=by
 unfold rightM at hr
 simp only [Bool.and_eq_true,Bool.or_eq_true,decide_eq_true_iff] at hr
 obtain ⟨hb,hs,hf,ht , -,ho⟩:=hr
 have own:=sameM_iff.1 ho
 have k1:m.kind≠2→m.kind≠3→m.kind≠6→m.kind≠5→m.pls=[]:=fun a b c d=>by
  have:m.pls=(ownM m).pls:=by rw [← own]
  rw [this];unfold ownM;simp [a,b,c,d]
 have k2:m.kind≠5→m.dgs=[]:=fun a=>by
  have:m.dgs=(ownM m).dgs:=by rw [← own]
  rw [this];unfold ownM;simp [a]
 have k3:m.kind≠3→m.kind≠6→m.kind≠7→m.kds=[]:=fun a b c=>by
  have:m.kds=(ownM m).kds:=by rw [← own]
  rw [this];unfold ownM;simp [a,b,c]
 have k4:m.kind=7→m.ses=0∧m.part=0:=fun a=>by
  constructor
  ·have:m.ses=(ownM m).ses:=by rw [← own]
   rw [this];unfold ownM;simp [a]
  ·have:m.part=(ownM m).part:=by rw [← own]
   rw [this];unfold ownM;simp [a]
 have hsp:(0≤m.ses∧m.ses≤1099511627776)∧0≤m.part∧m.part < 8:=by
  rcases hs with q|q
  ·have:=k4 q;omega
  ·unfold sesF at q
   simp only [Bool.and_eq_true,decide_eq_true_iff] at q
   omega
 have kn:keysF []=true:=rfl
 unfold bodyM at hb
 have hd:(1≤m.kind∧m.kind≤7)∧(∀ p∈m.pls,0≤p∧p≤20)∧m.pls.length≤16∧m.dgs.length≤16∧keysF m.kds=true:=by
  split at hb
  ·rename_i q
   rw [k1 (by omega) (by omega) (by omega) (by omega),k2 (by omega),k3 (by omega) (by omega) (by omega)]
   exact ⟨by omega,fun p hp=>(by cases hp),by simp,by simp,kn⟩
  ·split at hb
   ·rename_i q
    obtain ⟨f1,f2 , -⟩:=lvl_fit hb (by decide)
    rw [k2 (by omega),k3 (by omega) (by omega) (by omega)]
    exact ⟨by omega,f1,f2,by simp,kn⟩
   ·split at hb
    ·rename_i q
     rw [Bool.and_eq_true] at hb
     obtain ⟨f1,f2 , -⟩:=lvl_fit hb.1 (by decide)
     have f3:=hb.2
     unfold withinM at f3
     rw [Bool.and_eq_true] at f3
     rw [k2 (by omega)]
     exact ⟨by omega,f1,f2,by simp,f3.1⟩
    ·split at hb
     ·rename_i q
      rw [Bool.and_eq_true,Bool.or_eq_true,decide_eq_true_iff] at hb
      rw [k3 (by omega) (by omega) (by omega)]
      have f:=hb.2
      rcases hb.1 with g|g
      ·obtain ⟨f1,f2,f3⟩:=lvl_fit g (by decide)
       have:=f3 (by decide)
       exact ⟨by omega,f1,f2,by omega,kn⟩
      ·obtain ⟨f1,f2,f3⟩:=lvl_fit g (by decide)
       have:=f3 (by decide)
       exact ⟨by omega,f1,f2,by omega,kn⟩
     ·split at hb
      ·rename_i q
       rw [Bool.and_eq_true,Bool.and_eq_true] at hb
       rw [k1 (by omega) (by omega) (by omega) (by omega),k2 (by omega)]
       exact ⟨by omega,fun p hp=>(by cases hp),by simp,by simp,hb.2.1⟩
      ·cases hb
 exact ⟨hd.1,hf,ht,hsp.1,hsp.2,hd.2.1,hd.2.2.1,hd.2.2.2.1,hd.2.2.2.2,own⟩
end Go.Proofs.YtkgploeegbmofaaGreat.Wi
namespace Go.Aw
open Go Go.RowKit
set_option linter.unusedVariables false
set_option linter.unusedSimpArgs false
def exA {α:Type} (f:α→AObj):AObj where
 holds X b fp:=∃ x,(f x).holds X b fp
 mono:=by rintro x y b fp hle hf ⟨z,h⟩;exact ⟨z,(f z).mono hle hf h⟩
theorem aws_unex {C:Ctx} {σ:St} {k:List Code} {Q:Exit→St→Prop} {c0:Code} {p n:Nat} {α:Type} {f:α→AObj} (hm:σ.mem p=(n,some (.abs (exA f)))) (h:∀ x,AWs C (c0::k) Q (σ.put p (n,some (.abs (f x))))):AWs C (c0::k) Q σ:=by
 intro a w ⟨G,hr⟩
 obtain ⟨g,m,hg,hmm,b,hb,x,hx⟩:=hr.mem p _ _ hm
 have hlen:(G.μ p).length=n:=by have:=hr.gens p;rw [hm] at this;exact this
 have hu:=hr.upd (o:=p) (n':=n) (mo':=some (.abs (f x))) (μo:=G.μ p) (fp':=G.φ p) (w':=w) (fun g x hx=>hx) hlen rfl .same rfl (Nat.le_refl _) (fun _ _ _=>rfl) (fun b hb=>⟨.inl hb,(hr.own p b hb).2⟩) (fun mo1 hmo=>by
  obtain rfl:=Option.some.inj hmo
  exact ⟨g,m,hg,hmm,b,hb,hx⟩)
 exact h x a w ⟨_,hu⟩
theorem says_toex {C:Ctx} {σ:St} {p n:Nat} {α:Type} {f:α→AObj} (x:α) (hm:σ.mem p=(n,some (.abs (f x)))):Says C σ (σ.put p (n,some (.abs (exA f)))):=by
 rintro a w ⟨G,hr⟩
 obtain ⟨g,m,hg,hmm,b,hb,hx⟩:=hr.mem p _ _ hm
 have hlen:(G.μ p).length=n:=by have:=hr.gens p;rw [hm] at this;exact this
 exact ⟨_,hr.upd (o:=p) (n':=n) (mo':=some (.abs (exA f))) (μo:=G.μ p) (fp':=G.φ p) (w':=w) (fun g x hx=>hx) hlen rfl .same rfl (Nat.le_refl _) (fun _ _ _=>rfl) (fun b hb=>⟨.inl hb,(hr.own p b hb).2⟩) (fun mo1 hmo=>by
  obtain rfl:=Option.some.inj hmo
  exact ⟨g,m,hg,hmm,b,hb,x,hx⟩)⟩
theorem All2.setE {α β:Type} {R:α→β→Prop} {l:List α} {m:List β} (h:All2 R l m) {k:Nat} {c:α} (hc:∀ v,m[k]?=some v→R c v):All2 R (l.set k c) m:=by
 refine ⟨by rw [List.length_set];exact h.1,fun i a b ha hb=>?_⟩
 rw [List.getElem?_set] at ha
 by_cases e:k=i
 ·subst e
  rw [if_pos rfl] at ha
  split at ha
  ·obtain rfl:=Option.some.inj ha;exact hc b hb
  ·cases ha
 ·rw [if_neg e] at ha
  exact h.2 i a b ha hb
theorem RelG.box {C:Ctx} {σ:St} {a:Act} {w:World} {G:Gh} (h:RelG C σ a w G) {p np ty k:Nat} {cs:List AC} {c d:AC} (hp:σ.mem p=(np,some (.box ty cs))) (hc:cs[k]?=some c) (hcd:∀ v,c.holds G.μ ⟨w,G.S⟩ v→d.holds G.μ ⟨w,G.S⟩ v) :
  Rel C (σ.put p (np,some (.box ty (cs.set k d)))) a w:=by
 obtain ⟨g,m,hg,hmm,b,arr,e1,e2,e3,e4⟩:=h.mem p _ _ hp
 have hlen:(G.μ p).length=np:=by have:=h.gens p;rw [hp] at this;exact this
 have hmu:G.μ.le (fun x=>if x=p then G.μ p else G.μ x):=fun x g y hy=>by
  by_cases hx:x=p
  ·subst hx;simpa using hy
  ·simpa [hx] using hy
 exact ⟨_,h.upd (o:=p) (n':=np) (mo':=some (.box ty (cs.set k d))) (μo:=G.μ p) (fp':=G.φ p) (w':=w) (fun g x hx=>hx) hlen rfl .same rfl (Nat.le_refl _) (fun _ _ _=>rfl) (fun b hb=>⟨.inl hb,(h.own p b hb).2⟩) (fun mo1 hmo=>by
  obtain rfl:=Option.some.inj hmo
  refine ⟨g,m,hg,hmm,b,arr,e1,e2,e3,All2.setE (e4.mono fun _ _ q=>q.mono hmu (Wd.le.refl _)) fun v hv=>?_⟩
  exact (hcd v (e4.2 k c v hc hv)).mono hmu (Wd.le.refl _))⟩
theorem aws_capB {C:Ctx} {σ:St} {k:List Code} {Q:Exit→St→Prop} {c0:Code} (p i:Nat) {np tyB o g n es lo len ty:Nat} {cs:List AC} {rows:List (List PVal)} (hp:σ.mem p=(np,some (.box tyB cs))) (hc:cs[i]?=some (.osl o g es lo len)) (hm:σ.mem o=(n,some (.buf ty es rows))) (hn:n=g+1) (hne:o≠p) (h0:0 < rows.length)
  (h:∀ c,rows.length≤c→c≤maxLen→lo+len≤c→AWs C (c0::k) Q ((σ.put o (n,some (.abs (bufC ty es c rows)))).put p (np,some (.box tyB (cs.set i (.asl o g (lo * es) len (c - lo))))))):AWs C (c0::k) Q σ:=by
 intro a w ⟨G,hr⟩
 subst hn
 obtain ⟨g',m,hg,hmm,hes,hmax,hrl,hh⟩:=hr.mem o _ _ hm
 obtain rfl:g=g':=by omega
 obtain ⟨gp,mp,hgp,hmp,bp,arrp,p1,p2,p3,p4⟩:=hr.mem p _ _ hp
 have hi:i < arrp.length:=by rw [← p4.1];exact (List.getElem?_eq_some_iff.1 hc).1
 obtain ⟨m',c,k1,k2,k3⟩:=p4.2 i _ _ hc (List.getElem?_eq_getElem hi)
 rw [k1] at hmm;obtain rfl:=Option.some.inj hmm
 have hlen:(G.μ o).length=g+1:=by have:=hr.gens o;rw [hm] at this;exact this
 rcases hh with ⟨h3,h4,h5⟩ | ⟨b,arr,h3,h4,h5,h6,h7⟩
 ·simp only at h4 hrl;omega
 ·simp only at h3 hmax hrl h6
  subst h3
  have hu:=hr.upd (o:=o) (n':=g+1) (mo':=some (.abs (bufC ty es c rows))) (μo:=G.μ o) (fp':=G.φ o) (w':=w) (fun g x hx=>hx) hlen rfl .same rfl (Nat.le_refl _) (fun _ _ _=>rfl) (fun b hb=>⟨.inl hb,(hr.own o b hb).2⟩) (fun mo1 hmo=>by
   obtain rfl:=Option.some.inj hmo
   exact ⟨g,(some b,c),rfl,k1,b,rfl,hes,hmax,hrl,h4,arr,h5,h6,h7⟩)
  have hp':(σ.put o (g+1,some (.abs (bufC ty es c rows)))).mem p=(np,some (.box tyB cs)):=by
   show (if p=o then _ else σ.mem p)=_
   rw [if_neg (Ne.symm hne)];exact hp
  refine h c hrl hmax k2 a w (hu.box hp' hc fun v hv=>?_)
  obtain ⟨m2,c2,q1,q2,q3⟩:=hv
  simp only [if_true] at q1
  rw [k1] at q1
  obtain ⟨rfl,rfl⟩:=Prod.mk.inj (Option.some.inj q1)
  exact ⟨b,c,by simpa using k1,q3⟩
theorem says_uncapB {C:Ctx} {σ:St} (p i:Nat) {np tyB o g n es lo off len cap c ty:Nat} {cs:List AC} {rows:List (List PVal)} (hp:σ.mem p=(np,some (.box tyB cs))) (hc:cs[i]?=some (.asl o g off len cap)) (hm:σ.mem o=(n,some (.abs (bufC ty es c rows)))) (hn:n=g+1) (hne:o≠p) (hoff:off=lo * es) (hcap:cap=c - lo) (hl:lo+len≤rows.length) :
  Says C σ ((σ.put o (n+1,some (.buf ty es rows))).put p (np,some (.box tyB (cs.set i (.osl o n es lo len))))):=by
 rintro a w ⟨G,hr⟩
 subst hn hoff hcap
 obtain ⟨g',m,hg,hmm,b,h3,hes,hmax,hrl,h4,arr,h5,h6,h7⟩:=hr.mem o _ _ hm
 obtain rfl:g=g':=by omega
 have hlen:(G.μ o).length=g+1:=by have:=hr.gens o;rw [hm] at this;exact this
 have hu:=hr.upd (o:=o) (n':=g+1+1) (mo':=some (.buf ty es rows)) (μo:=G.μ o++[(some b,c)]) (fp':=G.φ o) (w':=w) (fun g x hx=>by
  rw [List.getElem?_append_left (List.getElem?_eq_some_iff.1 hx).1];exact hx) (by simp [hlen]) rfl .same rfl (Nat.le_refl _) (fun _ _ _=>rfl) (fun b hb=>⟨.inl hb,(hr.own o b hb).2⟩) (fun mo1 hmo=>by
  obtain rfl:=Option.some.inj hmo
  exact ⟨g+1,(some b,c),rfl,by simp [← hlen],hes,hmax,hrl,.inr ⟨b,arr,rfl,h4,h5,h6,h7⟩⟩)
 have hp':(σ.put o (g+1+1,some (.buf ty es rows))).mem p=(np,some (.box tyB cs)):=by
  show (if p=o then _ else σ.mem p)=_
  rw [if_neg (Ne.symm hne)];exact hp
 refine hu.box hp' hc fun v hv=>?_
 obtain ⟨b2,c2,q1,q3⟩:=hv
 simp only [if_true] at q1
 rw [List.getElem?_append_left (by omega),hmm] at q1
 obtain ⟨e,rfl⟩:=Prod.mk.inj (Option.some.inj q1)
 rw [h3] at e
 obtain rfl:=Option.some.inj e
 exact ⟨some b,c,by simp [← hlen],by omega,q3⟩
theorem run_append_room_o {P:Program} (w:World) (t ty e e':TypeId) (i:TypeInfo) (ht:P.underlying t=some (.slice e)) (hi:P.info? e=some i) (g off sLen sCap:Nat) (cur:Array Value) (hg:w.heap[g]?=some (.cells cur e' (0,0)))
  (a:Addr) (m c:Nat) (news:List Value) (hl:news.length=m * i.size) (hnews:∀ j u,news[j]?=some u→w.cell? (a.add j)=some u) (h1:∀ u∈news,u.oneCell'=true) (hroom:sLen+m≤sCap) (hfit:off+sLen * i.size+news.length≤cur.size) :
  (Builtin.append_ #[t,t] ty #[.slice (some ⟨g,off,none⟩) sLen sCap,.slice (some a) m c]).run P w =
   .ok (.slice (some ⟨g,off,none⟩) (sLen+m) sCap) (w.setRow g (cur.toList.take (off+sLen * i.size)++news++cur.toList.drop (off+sLen * i.size+news.length)).toArray):=by
 have hf:=run_firstCells_some (P:=P) w i.size m a m c news hl hnews
 have hst:=run_storeCells_at P g (off+sLen * i.size) e' news 0 cur w hg (by simpa using hfit) h1
 simp only [Nat.add_zero] at hst
 simp [Builtin.append_,run_underlying ht,sizeOf,typeInfo,hi,Builtin.lenOf,hroom,hf,Addr.add_lit,hst]
section
variable {C:Ctx} {o:Oper} {σ:St} {T e:TypeId} {x y:Operand} {sz by_:Nat} {ke:TK} {es be:Nat} {z:List Value} {news rows:List (List PVal)} {ro:Nat→Bool} {ob g off lo len cap c n ty:Nat}
theorem lop_ap_room (ho:o.op=.call ⟨.builtin .append,#[x,y],#[T,T]⟩) (hT:TI C.P T (.slice e) sz by_) (he:TI C.P e ke es be) (hx:σ.look x=.o (.asl ob g off len cap)) (hm:σ.mem ob=(n,some (.abs (bufC ty es c rows)))) (hn:n=g+1) (hoff:off=lo * es) (hlr:lo+len=rows.length) (hcap:cap=c - lo)
  (hsrc:SrcOk C σ y es news ro) (h0:0 < news.length) (hroom:rows.length+news.length≤c) (hd:dOk C o.dst=true) :
  LOp C o σ ⟨.o (.asl ob g off (len+news.length) cap),[(ob,(n,some (.abs (bufC ty es c (rows++news)))))]⟩ (fun q=>ro q||q == ob):=
 lop_same (by simp) hd hm fun τ a w G g' m hl hm' h hng hmm hh=>by
  subst hn hcap
  obtain rfl:g=g':=by omega
  obtain ⟨b',c',k1,k2⟩:=look_of h ((hl x (by simp [ho,Op.operands,Call.operands])).trans hx)
  rw [k1] at hmm;obtain rfl:=Option.some.inj hmm
  obtain ⟨b,e1,hes,hmax,hrl,hfp,arr,h5,h6,h7⟩:=hh
  simp only [Option.some.injEq] at e1
  subst e1
  obtain ⟨base,cp,s1,s2⟩:=hsrc τ a w G (hl y (by simp [ho,Op.operands,Call.operands])) (fun q hq=>hm' q (by simp [hq])) h
  obtain ⟨nvs,v1,v2,v3,v4⟩:=src_vals (τ:=τ) (a:=a) s2
  obtain ⟨ad,rfl,hnews⟩:=v2 h0
  obtain ⟨dd,hdd,hkk⟩:=hT.undd
  have:dd=.slice e:=by cases dd<;>simp [TK.of] at hkk;rw [hkk]
  subst this
  obtain ⟨i,hi,his,hib⟩:=he.infoo
  subst his
  have hplace:off+len * i.size=rows.length * i.size:=by rw [hoff,← Nat.add_mul,hlr]
  have hfit:off+len * i.size+nvs.length≤arr.size:=by rw [hplace,v1,h6,← Nat.add_mul];exact Nat.mul_le_mul_right _ hroom
  have hr:=run_append_room_o (P:=C.P) w T o.type e ty i hdd hi b' off len (c - lo) arr h5 ad news.length cp nvs v1 hnews v3 (by omega) hfit
  rw [hplace] at hr hfit
  have hbS:¬ G.S b':=h.stab ob b' (by rw [hfp];simp)
  have hle:Wd.le ⟨w,G.S⟩ ⟨w.setRow b' (arr.toList.take (rows.length * i.size)++nvs++arr.toList.drop (rows.length * i.size+nvs.length)).toArray,G.S⟩:=fun q hq=>⟨hq,setRow_other w b' q _ fun e=>hbS (e ▸ hq)⟩
  refine ⟨_,.slice (some ⟨b',off,none⟩) (len+news.length) (c - lo),_,by
   simp only [execOp,ho,resolve,invoke,builtin,Sem.run_bind,Sem.run_pure,Result.andThen_ok,List.map_toArray,List.map_cons,List.map_nil,k2,s1,hr]
   rfl,.inl rfl,setRow_frame.1,setRow_frame.2.1,setRow_frame.2.2.1,setRow_frame.2.2.2,fun q _ hq=>setRow_other w b' q _ fun e=>hq (by rw [hfp,e];simp),?_,b',c',k1,rfl⟩
  refine ⟨b',rfl,hes,hmax,by rw [List.length_append];exact hroom,hfp,_,setRow_heap w b' _ _ ty _ h5,?_,?_⟩
  ·simp only [List.size_toArray,List.length_append,List.length_take,List.length_drop,Array.length_toList]
   omega
  ·have:=rowsAt_over (k:=news.length) hes h7 v1 rfl (Nat.le_refl rows.length) (by rw [h6];exact Nat.mul_le_mul_right _ hroom) v4
   rw [List.take_length,List.drop_eq_nil_of_le (show rows.length≤rows.length+news.length by omega),List.append_nil] at this
   intro q row hrow
   refine ⟨(this q row hrow).1,fun j p hp=>?_⟩
   obtain ⟨u,hu,hpu⟩:=(this q row hrow).2 j p hp
   exact ⟨u,hu,p.mono hle hpu⟩
theorem lop_ap_grow (ho:o.op=.call ⟨.builtin .append,#[x,y],#[T,T]⟩) (hT:TI C.P T (.slice e) sz by_) (he:TI C.P e ke es be) (hz:TZ C.P e z) (hx:σ.look x=.o (.asl ob g off len cap)) (hm:σ.mem ob=(n,some (.abs (bufC ty es c rows)))) (hn:n=g+1) (hoff:off=lo * es) (hlr:lo+len=rows.length) (hcap:cap=c - lo)
  (hsrc:SrcOk C σ y es news ro) (h0:0 < news.length) (hgrow:c < rows.length+news.length) (hzl:z.length=es) (h63:len+news.length≤maxLen) (hby:(len+news.length) * be≤140737488355328) (hd:dOk C o.dst=true) :
  LOp C o σ ⟨.o (.osl ob n es 0 (len+news.length)),[(ob,(n+1,some (.buf e es (rows.drop lo++news))))]⟩ (fun q=>ro q||q == ob):=
 lop_gen (by simp) hd hm fun τ a w G hl hm' h=>by
  subst hn hcap
  obtain ⟨b',c',k1,k2⟩:=look_of h ((hl x (by simp [ho,Op.operands,Call.operands])).trans hx)
  obtain ⟨base,cp,s1,s2⟩:=hsrc τ a w G (hl y (by simp [ho,Op.operands,Call.operands])) (fun q hq=>hm' q (by simp [hq])) h
  obtain ⟨nvs,v1,v2,v3,v4⟩:=src_vals (τ:=τ) (a:=a) s2
  have hlen:(G.μ ob).length=g+1:=by have:=h.gens ob;rw [hm' ob (by simp),hm] at this;exact this
  obtain ⟨g',m',hg,hmm,b,e1,hes,hmax,hrl,hfp,arr,h5,h6,h7⟩:=h.mem ob _ _ (by rw [hm' ob (by simp)];exact hm)
  obtain rfl:g=g':=by omega
  rw [k1] at hmm;obtain rfl:=Option.some.inj hmm
  simp only [Option.some.injEq] at e1
  subst e1
  have hdl:(rows.drop lo).length=len:=by rw [List.length_drop];omega
  have hcell:∀ j,w.cell? ((⟨b',off,none⟩:Addr).add j)=arr[off+j]?:=fun j=>by rw [cell_at rfl h5]
  obtain ⟨olds,q1,q2,q3,q4⟩:=rows_vals (X:=⟨w,G.S⟩) (es:=es) (f:=fun j=>arr[off+j]?) (rows.drop lo) (fun i row hr=>by
   rw [List.getElem?_drop] at hr
   refine ⟨(h7 _ _ hr).1,fun j p hp=>?_⟩
   obtain ⟨u,hu,hpu⟩:=(h7 _ _ hr).2 j p hp
   refine ⟨u,?_,hpu⟩
   rw [← hu,hoff]
   congr 1
   rw [Nat.add_mul];omega)
  rw [hdl] at q1
  obtain ⟨cap',arr',hr,g1,g2,g3,g4⟩:=app_fresh (ty:=o.type) hT he hz hzl (w:=w) (bs:=some ⟨b',off,none⟩) (src:=base) (n:=len) (cap:=c - lo) (m:=news.length) (c:=cp) (olds:=olds) (news:=nvs) (.inr ⟨_,rfl,q1,by omega,fun j u hu=>by rw [hcell];exact q2 j u hu⟩) v1 v2 (by omega) h63 hby
  refine ⟨.slice (some ⟨w.heap.size,0,none⟩) (len+news.length) cap',w.drew.alloc (.cells arr' e),(some w.heap.size,cap'),[w.heap.size],by
   simp only [execOp,ho,resolve,invoke,builtin,Sem.run_bind,Sem.run_pure,Result.andThen_ok,List.map_toArray,List.map_cons,List.map_nil,k2,s1,hr],rfl,.same,rfl,by simp,fun k hk _=>Below.heap_alloc w.drew _ k hk,by simp,?_,?_⟩
  ·refine ⟨hes,g2,by rw [List.length_append,hdl];exact g1,.inr ⟨w.heap.size,arr',rfl,rfl,heap_alloc_new w.drew _,g3,?_⟩⟩
   have:=rowsAt_append (X:=⟨w,G.S⟩) (arr:=arr') (es:=es) (rows:=rows.drop lo) (news:=news) (olds:=olds) (nvs:=nvs) (by rw [hdl];exact q1) v1 (by rw [hdl];exact g4) q4 v4
   intro q row hrow
   refine ⟨(this q row hrow).1,fun j p hp=>?_⟩
   obtain ⟨u,hu,hpu⟩:=(this q row hrow).2 j p hp
   exact ⟨u,hu,p.mono (wle_drew_alloc (fun b hb=>(h.sbd b hb).1) _) hpu⟩
  ·exact ⟨some w.heap.size,cap',mu_new hlen,by simpa using g1,by simp⟩
end
theorem sl_of_buf_lo {X:Wd} {m:Option Nat} {c:Nat} {v:Value} {es ty lo len:Nat} {rows:List (List PVal)} (hc:c≤maxLen) (hl:rows.length≤c) (hll:lo+len=rows.length) (h3:(m=none∧c=0)∨∃ b arr,m=some b∧X.S b∧X.w.heap[b]?=some (.cells arr ty (0,0))∧RowsAt X arr 0 es rows)
  (h:v=.slice (m.map fun b=>⟨b,lo * es,none⟩) len (c - lo)):(PVal.sl es (rows.drop lo) false).holds X v:=by
 have hd:(rows.drop lo).length=len:=by rw [List.length_drop];omega
 refine ⟨m.map fun b=>⟨b,lo * es,none⟩,c - lo,by rw [hd];exact h,by omega,by omega,by simp,?_⟩
 rcases h3 with ⟨rfl,rfl⟩ | ⟨b,arr,rfl,k1,k2,k3⟩
 ·exact ⟨List.eq_nil_of_length_eq_zero (by omega),by omega⟩
 ·refine .inr ⟨rfl,k1,arr,ty,(0,0),k2,fun i row hr=>?_⟩
  rw [List.getElem?_drop] at hr
  refine ⟨(k3 _ _ hr).1,fun j p hp=>?_⟩
  obtain ⟨u,hu,hpu⟩:=(k3 _ _ hr).2 j p hp
  refine ⟨u,?_,hpu⟩
  rw [← hu]
  congr 1
  show lo * es+i * es+j=0+(lo+i) * es+j
  rw [Nat.add_mul];omega
theorem says_frz_lo {C:Ctx} {σ:St} {p np tyb o g n ty es k lo len:Nat} {cs ds:List AC} {rows:List (List PVal)} (hp:σ.mem p=(np,some (.box tyb cs))) (hk:cs[k]?=some (.osl o g es lo len)) (hds:cs.set k (.p (.sl es (rows.drop lo) false))=ds) (hm:σ.mem o=(n,some (.buf ty es rows))) (hn:n=g+1) (hl:lo+len=rows.length) (hne:p≠o) :
  Says C σ ((σ.put o (n,some (.frz ty es rows))).put p (np,some (.box tyb ds))):=by
 subst hds hn
 rintro a w ⟨G,h⟩
 obtain ⟨g',m,hg,hmm,hes,hmax,hrl,hh⟩:=h.mem o _ _ hm
 obtain rfl:g=g':=by omega
 have hh':(m.1=none∧m.2=0)∨∃ b arr,m.1=some b∧(G.S b∨b∈G.φ o)∧w.heap[b]?=some (.cells arr ty (0,0))∧RowsAt ⟨w,fun b=>G.S b∨b∈G.φ o⟩ arr 0 es rows:=by
  rcases hh with ⟨h3,h4,_⟩ | ⟨b,arr,h3,h4,h5,h6,h7⟩
  ·exact .inl ⟨h3,h4⟩
  ·refine .inr ⟨b,arr,h3,.inr (by rw [h4];simp),h5,fun i row hr=>⟨(h7 i row hr).1,fun j p hp=>?_⟩⟩
   obtain ⟨c,hc,hp'⟩:=(h7 i row hr).2 j p hp
   exact ⟨c,hc,p.mono (x:=⟨w,G.S⟩) (fun b hb=>⟨.inl hb,rfl⟩) hp'⟩
 have hf:=h.freeze (o:=o) (mo':=some (.frz ty es rows)) hm (fun x hx=>by
  obtain rfl:=Option.some.inj hx
  exact ⟨g,m,rfl,hmm,rfl,hmax,hrl,hh'⟩)
 refine ⟨_,hf.remem (o:=p) (n:=np) (mo:=.box tyb cs) (by simp [St.put,hne,hp]) ?_⟩
 rintro q ⟨b,arr,h1,h2,h3,h4⟩
 refine ⟨b,arr,h1,h2,h3,h4.turn fun v hv=>?_⟩
 obtain ⟨v',hv',m',c,k1,k2,k3⟩:=h4.get hk
 rw [hv] at hv';obtain rfl:=Option.some.inj hv'
 have e:=k1.symm.trans hmm
 obtain rfl:=Option.some.inj e
 exact sl_of_buf_lo (ty:=ty) hmax hrl hl hh' k3
end Go.Aw
namespace Go.Proofs.YtkgploeegbmofaaGreat.Wi
open Go Go.RowKit Go.Aw Go.Aw.Cart Go.Aw.Tree Go.Proofs.YtkgploeegbmofaaGreat.Ca Go.Proofs.YtkgploeegbmofaaGreat.Rg
set_option linter.unusedVariables false
set_option linter.unusedSimpArgs false
def nodesR (m:Msg):Bool:=decide (1≤m.frm∧m.frm≤8∧1≤m.to∧m.to≤8∧m.frm≠m.to)
def headR (m:Msg):Bool:=if m.kind=7 then decide (m.ses=0∧m.part=0) else decide (1≤m.ses∧m.ses≤1099511627776∧0≤m.part∧m.part≤7)
def zeR (m:Msg):Bool:=decide (m.dig=zeroD)
def plR (m:Msg):Bool:=decide ((m.pls.length:Int)=0)
def dgR (m:Msg):Bool:=decide ((m.dgs.length:Int)=0)
def ctR (m:Msg):Bool:=decide ((m.kds.length:Int)=0)
theorem len0 {α:Type} {l:List α}:(l.length:Int)=0↔l=[]:=by
 rw [show ((l.length:Int)=0)↔l.length=0 by omega,List.length_eq_zero_iff]
def bodyR (m:Msg):Bool:=
 if m.kind=1 then plR m&&(dgR m&&ctR m)
 else if m.kind=2 then zeR m&&(dgR m&&(ctR m&&lvlF m.pls 1))
 else if m.kind=3∨m.kind=6 then zeR m&&(dgR m&&(lvlF m.pls 2&&withinM m))
 else if m.kind=4 then zeR m&&(plR m&&(dgR m&&ctR m))
 else if m.kind=5 then zeR m&&(ctR m&&((lvlF m.pls 0||lvlF m.pls 1)&&decide ((m.dgs.length:Int)=4 * m.pls.length)))
 else if m.kind=7 then zeR m&&(plR m&&(dgR m&&(decide ((m.kds.length:Int)=1)&&(keysF m.kds&&keyR (m.kds.getD 0 default).1))))
 else false
theorem own_iff (m:Msg):sameM m (ownM m)=true↔(m.kind=7→m.ses=0∧m.part=0)∧(m.kind≠1→m.dig=zeroD)∧(¬ (m.kind=2∨m.kind=3∨m.kind=6∨m.kind=5)→m.pls=[])∧(m.kind≠5→m.dgs=[])∧(¬ (m.kind=3∨m.kind=6∨m.kind=7)→m.kds=[]):=by
 rw [sameM_iff]
 obtain ⟨k,f,t,s,p,d,P,G,K⟩:=m
 unfold ownM
 rw [Msg.mk.injEq]
 dsimp only
 constructor
 ·rintro ⟨- , - , -,h4,h5,h6,h7,h8,h9⟩
  refine ⟨fun h=>?_,fun h=>?_,fun h=>?_,fun h=>?_,fun h=>?_⟩
  ·rw [if_pos h] at h4 h5;exact ⟨h4,h5⟩
  ·rw [if_neg h] at h6;exact h6
  ·rw [if_neg h] at h7;exact h7
  ·rw [if_neg h] at h8;exact h8
  ·rw [if_neg h] at h9;exact h9
 ·rintro ⟨h1,h2,h3,h4,h5⟩
  refine ⟨rfl,rfl,rfl,?_,?_,?_,?_,?_,?_⟩
  ·split
   ·rename_i q;exact (h1 q).1
   ·rfl
  ·split
   ·rename_i q;exact (h1 q).2
   ·rfl
  ·split
   ·rfl
   ·rename_i q;exact h2 q
  ·split
   ·rfl
   ·rename_i q;exact h3 q
  ·split
   ·rfl
   ·rename_i q;exact h4 q
  ·split
   ·rfl
   ·rename_i q;exact h5 q
theorem ses_iff (s p:Int):sesF s p=decide (1≤s∧s≤1099511627776∧0≤p∧p≤7):=by
 unfold sesF
 rw [Bool.eq_iff_iff]
 simp only [Bool.and_eq_true,decide_eq_true_iff]
 omega
theorem right_ref (m:Msg):rightM m=(nodesR m&&(headR m&&bodyR m)):=by
 rw [Bool.eq_iff_iff]
 unfold rightM
 rw [ses_iff]
 unfold nodesR headR bodyM bodyR zeR plR dgR ctR
 simp only [Bool.and_eq_true,own_iff,Bool.or_eq_true,decide_eq_true_iff,len0]
 by_cases k1:m.kind=1
 ·simp only [k1]
  simp
  constructor
  ·rintro ⟨⟨a1,a2,a3,a4⟩,⟨b1,b2⟩,⟨c1,c2⟩,c3,c4,c5,c6⟩
   exact ⟨⟨b1,b2,c1,c2,c3⟩,⟨a1,a2,a3,a4⟩,c4,c5,c6⟩
  ·rintro ⟨⟨b1,b2,c1,c2,c3⟩,⟨a1,a2,a3,a4⟩,c4,c5,c6⟩
   exact ⟨⟨a1,a2,a3,a4⟩,⟨b1,b2⟩,⟨c1,c2⟩,c3,c4,c5,c6⟩
 by_cases k2:m.kind=2
 ·simp only [k2]
  simp
  constructor
  ·rintro ⟨l,⟨a1,a2,a3,a4⟩,⟨b1,b2⟩,⟨c1,c2⟩,c3,c4,c5,c6⟩
   exact ⟨⟨b1,b2,c1,c2,c3⟩,⟨a1,a2,a3,a4⟩,c4,c5,c6,l⟩
  ·rintro ⟨⟨b1,b2,c1,c2,c3⟩,⟨a1,a2,a3,a4⟩,c4,c5,c6,l⟩
   exact ⟨l,⟨a1,a2,a3,a4⟩,⟨b1,b2⟩,⟨c1,c2⟩,c3,c4,c5,c6⟩
 by_cases k3:m.kind=3∨m.kind=6
 ·have e7:m.kind≠7:=by omega
  have e4:m.kind≠4:=by omega
  have e5:m.kind≠5:=by omega
  rw [if_neg (by omega),if_neg k2,if_pos k3,if_neg k1,if_neg k2,if_pos k3,if_neg e7]
  simp only [Bool.and_eq_true,decide_eq_true_iff,len0]
  constructor
  ·rintro ⟨⟨l,w⟩,s,b,c,d,e,f,g,h,i⟩
   exact ⟨⟨b.1,b.2,c.1,c.2,d⟩,s.resolve_left e7,f k1,h e5,l,w⟩
  ·rintro ⟨⟨b1,b2,c1,c2,c3⟩,a,c4,c5,l,w⟩
   exact ⟨⟨l,w⟩,.inr a,⟨b1,b2⟩,⟨c1,c2⟩,c3,fun q=>absurd q e7,fun _=>c4,fun q=>absurd (by omega) q,fun _=>c5,fun q=>absurd (by omega) q⟩
 by_cases k4:m.kind=4
 ·simp only [k4]
  simp
  constructor
  ·rintro ⟨⟨a1,a2,a3,a4⟩,⟨b1,b2⟩,⟨c1,c2⟩,c3,c4,c5,c6,c7⟩
   exact ⟨⟨b1,b2,c1,c2,c3⟩,⟨a1,a2,a3,a4⟩,c4,c5,c6,c7⟩
  ·rintro ⟨⟨b1,b2,c1,c2,c3⟩,⟨a1,a2,a3,a4⟩,c4,c5,c6,c7⟩
   exact ⟨⟨a1,a2,a3,a4⟩,⟨b1,b2⟩,⟨c1,c2⟩,c3,c4,c5,c6,c7⟩
 by_cases k5:m.kind=5
 ·simp only [k5]
  simp
  constructor
  ·rintro ⟨⟨l,e⟩,⟨a1,a2,a3,a4⟩,⟨b1,b2⟩,⟨c1,c2⟩,c3,c4,c5⟩
   exact ⟨⟨b1,b2,c1,c2,c3⟩,⟨a1,a2,a3,a4⟩,c4,c5,l,e⟩
  ·rintro ⟨⟨b1,b2,c1,c2,c3⟩,⟨a1,a2,a3,a4⟩,c4,c5,l,e⟩
   exact ⟨⟨l,e⟩,⟨a1,a2,a3,a4⟩,⟨b1,b2⟩,⟨c1,c2⟩,c3,c4,c5⟩
 by_cases k7:m.kind=7
 ·simp only [k7]
  simp
  constructor
  ·rintro ⟨⟨l,e,g⟩,⟨b1,b2⟩,⟨c1,c2⟩,c3,⟨a1,a2⟩,c4,c5,c6⟩
   exact ⟨⟨b1,b2,c1,c2,c3⟩,⟨a1,a2⟩,c4,c5,c6,l,e,g⟩
  ·rintro ⟨⟨b1,b2,c1,c2,c3⟩,⟨a1,a2⟩,c4,c5,c6,l,e,g⟩
   exact ⟨⟨l,e,g⟩,⟨b1,b2⟩,⟨c1,c2⟩,c3,⟨a1,a2⟩,c4,c5,c6⟩
 ·rw [if_neg (by omega),if_neg k2,if_neg k3,if_neg k5,if_neg k7,if_neg k1,if_neg k2,if_neg k3,if_neg k4,if_neg k5,if_neg k7,if_neg k7]
  constructor
  ·rintro ⟨h , -⟩;cases h
  ·rintro ⟨- , -,h⟩;cases h
end Go.Proofs.YtkgploeegbmofaaGreat.Wi
