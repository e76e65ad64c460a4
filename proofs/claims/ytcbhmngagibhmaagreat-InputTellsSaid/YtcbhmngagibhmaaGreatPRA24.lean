/- packs: what is written is bytes -/
import Derived.Test.YtcbhmngagibhmaaGreatPRA11
import Derived.Test.YtcbhmngagibhmaaGreatPRA17
import Derived.Test.YtcbhmngagibhmaaGreatPRA21
import Derived.Test.YtcbhmngagibhmaaGreatPRA18
import Derived.Test.YtcbhmngagibhmaaGreatPRA29
import Derived.Test.YtcbhmngagibhmaaGreatPRA30
import Derived.Test.YtcbhmngagibhmaaGreatPRA01
import Derived.Test.YtcbhmngagibhmaaGreatPRA06
namespace Go.Proofs.YtcbhmngagibhmaaGreat.Wi
open Go Go.RowKit Go.Aw Go.Aw.Cart Go.Proofs.YtcbhmngagibhmaaGreat.Ca
set_option linter.unusedVariables false
set_option linter.unusedSimpArgs false
theorem okB_app {a b:List Nat} (ha:okB a) (hb:okB b):okB (a++b):=fun c hc=>(List.mem_append.1 hc).elim (ha c) (hb c)
theorem okB_flat {α:Type} {f:α→List Nat} {l:List α} (h:∀ x∈l,okB (f x)):okB (l.flatMap f):=fun c hc=>by
 obtain ⟨x,hx,hc⟩:=List.mem_flatMap.1 hc
 exact h x hx c hc
theorem numB_ok (x:Nat):okB (numB x):=fun c hc=>by
 rcases List.mem_cons.1 hc with rfl|h
 ·have:=beF_le 8 x
  show (beF 8 x).length < 256
  omega
 ·exact beF_byte 8 x c h
theorem cartB_ok (c:Crt):okB (cartB c):=by
 refine okB_app (okB_flat fun n _=>numB_ok _) (okB_app (numB_ok _) (okB_flat fun e _=>?_))
 exact okB_app (numB_ok _) (okB_app (numB_ok _) (okB_app (numB_ok _) (numB_ok _)))
theorem listB_ok {l:List Kd} (h:∀ k∈l,okB k.1):okB (listB l):=
 okB_app (numB_ok _) (okB_flat fun k hk=>okB_app (okB_app (numB_ok _) (h k hk)) (cartB_ok _))
end Go.Proofs.YtcbhmngagibhmaaGreat.Wi
namespace Go.Proofs.YtcbhmngagibhmaaGreat.Wi
open Go Go.RowKit Go.Aw Go.Aw.Cart Go.Proofs.YtcbhmngagibhmaaGreat.Ca
set_option linter.unusedVariables false
set_option linter.unusedSimpArgs false
set_option maxRecDepth 8000
set_option maxHeartbeats 4000000
open WE
theorem kdW_of {l:List Kd} (hin:∀ k∈l,KdI k) (hk:keysF l=true):∀ k∈l,KdW k:=fun k h=>by
 have ho:=keys_iff.1 hk
 have hr:=ho.cart k h
 exact ⟨(hin k h).key,ho.key k h,(hin k h).vec,(ok_iff.1 hr).few,ok_ents hr (hin k h).vec⟩
end Go.Proofs.YtcbhmngagibhmaaGreat.Wi
namespace Go.Proofs.YtcbhmngagibhmaaGreat.Wi
open Go Go.RowKit Go.Aw Go.Aw.Cart Go.Aw.Tree Go.Proofs.YtcbhmngagibhmaaGreat.Ca Go.Proofs.YtcbhmngagibhmaaGreat.Rg
set_option linter.unusedVariables false
set_option linter.unusedSimpArgs false
set_option maxRecDepth 8000
set_option maxHeartbeats 4000000
theorem mright_w (m:Msg) (h:MIn m):PCall Tryz.prog 15 [mV m] (.p (.b (rightM m))):=mright_g m h (within_w m h)
theorem lop_ap_oo {C:Ctx} {o:Oper} {σ:St} {l m:List Nat} {T e ty:TypeId} {x y:Operand} {sz by_:Nat} {ke:TK} {be:Nat} {z:List Value} {ob g n len ob2 g2 n2 len2:Nat} (ho:o.op=.call ⟨.builtin .append,#[x,y],#[T,T]⟩) (hT:TI C.P T (.slice e) sz by_) (he:TI C.P e ke 1 be) (hz:TZ C.P e z)
  (hx:σ.look x=.o (.osl ob g 1 0 len)) (hm:σ.mem ob=(n,some (.buf e 1 (m.map bR)))) (hn:n=g+1) (hlr:len=m.length) (hy:σ.look y=.o (.osl ob2 g2 1 0 len2)) (hm2:σ.mem ob2=(n2,some (.buf ty 1 (l.map bR)))) (hn2:n2=g2+1) (hl2:len2=l.length)
  (hzl:z.length=1) (h63:m.length+l.length≤maxLen) (hby:(m.length+l.length) * be≤140737488355328) (hd:dOk C o.dst=true) :
  LOp C o σ ⟨.o (.osl ob n 1 0 (m++l).length),[(ob,(n+1,some (.buf e 1 ((m++l).map bR))))]⟩ (fun q=>q == ob2||q == ob):=by
 subst hl2
 have hsrc:=src_osl (C:=C) (lo:=0) (len:=l.length) hy hm2 hn2 (by rw [List.length_map];omega)
 rw [List.drop_zero,List.take_of_length_le (by rw [List.length_map];exact Nat.le_refl _)] at hsrc
 have:=lop_append_osl (o:=o) ho hx hm hn (by simpa using hlr) hsrc hzl (by rw [List.length_map,List.length_map];exact h63) (by rw [List.length_map,List.length_map];exact hby) hd
 simpa using this
theorem ocall_lm (q:Nat) {P:Program} {f:FuncId} {fn:Func} {body:Code} {args:List AV} {r:AV} {m0 m1 mq:Nat × Option MO} (hf:P.funcs[f]?=some fn) (hb:fn.body=some body)
  (h:∀ w0 F S0 M0,AWs ⟨P,w0,F,S0,max args.length fn.ntmps,none,M0⟩ [body] (RetO P fn r (kIn [(1000,m1),(q,mq)]) (memL [(1000,m1),(q,mq)])) ⟨fun t=>args.getD t .un,memL [(1000,m0)]⟩):OCall P f args (memL [(1000,m0)]) r (memL [(1000,m1),(q,mq)]):=by
 refine ocall_of (kIn [(1000,m1),(q,mq)]) hf hb (fun o ho=>?_) h
 have:o≠1000:=fun e=>by subst e;simp [kIn] at ho
 simp [memL,this]
theorem lop_cl {C:Ctx} {o:Oper} {σ:St} {f:FuncId} {x0:Operand} {ts:Array TypeId} {a0 r:AV} {c n d k:Nat} {mo:MO} {upds:List (Nat × (Nat × Option MO))} (ho:o.op=.call ⟨.value (.func f),#[x0],ts⟩) (hfn:FnT C.P f) (h0:σ.look x0=a0) (hc:OCAt C.P f [a0] [(c,(n,some mo))] [(d,k)] r upds)
  (hm:σ.mem c=(n,some mo)) (hfr:(σ.mem d).1=k) (hs:kIn upds c=true) (hs':kIn upds d=true) (hd:dOk C o.dst=true):LOp C o σ ⟨r,upds⟩ (kIn upds):=
 lop_ocall ho hfn (.cons h0 .nil) hc (fun p hp=>by simp at hp;subst hp;exact hm) (fun p hp=>by simp at hp;subst hp;exact hfr) (fun p hp=>by simp at hp;subst hp;exact hs) (fun p hp=>by simp at hp;subst hp;exact hs') hd
namespace T6
theorem lopC {C:Ctx} {o:Oper} {σ:St} {e:Eff} {ro:Nat→Bool} (h:LOp C o σ e ro:=by
  first|(apply lop_cl;(focus rfl);(focus exact inferInstance);(focus rfl);(focus assumption);(focus rfl);(focus rfl);(focus rfl);(focus rfl);(focus rfl))|(apply lop_bz;(focus rfl);(focus exact inferInstance);(focus exact inferInstance);(focus exact inferInstance);(focus rfl);(focus rfl);(focus rfl))|(apply lop_ap_oo;(focus rfl);(focus exact inferInstance);(focus exact inferInstance);(focus exact inferInstance);(focus rfl);(focus rfl);(focus rfl);(focus rfl);(focus rfl);(focus rfl);(focus rfl);(focus rfl);(focus rfl);(focus first|(simp only [maxLen,List.length_append,List.length_cons,List.length_nil,List.length_take,List.length_drop,List.length_map];omega)|omega);(focus first|(simp only [maxLen,List.length_append,List.length_cons,List.length_nil,List.length_take,List.length_drop,List.length_map];omega)|omega);(focus rfl))|exact T4.lopC|fail):LOp C o σ e ro:=h
section steps
variable {C:Ctx} {ops:Array Oper} {o:Oper} {rest:List Oper} {K:St→Prop} {σ:St} {e:Eff} {ro:Nat→Bool} {W:List (Nat × Nat)} {i:Nat}
theorem rnC {d:Nat} (hg:Guard ops σ o true:=by first|exact gd_n rfl rfl|exact gd_t rfl rfl rfl rfl|exact gd_t rfl rfl rfl (by assumption)) (hd:o.dst=some d:=by rfl) (h:LOp C o σ e ro:=by exact lopC) (hk:RunN C ops rest K (e.app (some d) σ)):RunN C ops (o::rest) K σ:=rn_any hg hd h hk
theorem rkC {d:Nat} (hg:Guard ops σ o true:=by first|exact gd_n rfl rfl|exact gd_t rfl rfl rfl rfl|exact gd_t rfl rfl rfl (by assumption)) (hd':o.dst=some d:=by rfl) (hd:dOk C o.dst=true:=by rfl) (h:LOp C o σ e ro:=by exact lopC) (hro:∀ x,ro x=true→okObj ops W i x=true:=by first|exact fun _=>ro_none|exact ro_one rfl|exact ro_k1 rfl|exact ro_one (by kernel_rfl)|exact ro_k1 (by kernel_rfl)|exact ro_kIn (by decide)) (hob:∀ p∈e.obj,(i,p.1)∈W:=by first|exact ob_none|exact ob_one (by decide)|decide) (hk:RunK C ops W (i+1) rest K (e.app (some d) σ)):RunK C ops W i (o::rest) K σ:=rk_wr hg hd' hd h hro hob hk
end steps
end T6
section
open T6
theorem cloneOO_o (n:Nat) (l:List Nat) (h:l.length≤1000000000):OCall Tryz.prog 143 [.o (.osl 1000 n 1 0 l.length)] (memL [(1000,(n+1,some (.buf 5 1 (l.map bR))))]) (.o (.osl 5 1 1 0 l.length)) (memL [(1000,(n+1,some (.buf 5 1 (l.map bR)))),(5,(2,some (.buf 5 1 (l.map bR))))]):=by
 refine ocall_lm 5 Tryz.func143 rfl (fun w0 F S0 M0=>?_)
 repeat' (first|refine jx8 ?_|refine jy0 ?_ ?_|exact spF|refine spQ fun hq hq'=>?_|refine spN fun hn=>?_|fail)
 ·have e:l=[]:=List.eq_nil_of_length_eq_zero hn
  subst e
  refine aws_says (says_bump (o:=5) (ty:=5) (es:=1) rfl (by decide)) ?_
  refine aws_says (says_nil (t:=2) (o:=5) (ty:=5) (es:=1) rfl rfl (by decide)) ?_
  as_aux_lemma=>
   repeat' (first|refine jx5 ?_|refine jy0 ?_ ?_|exact spF|refine spQ fun hq hq'=>?_|refine spN fun hn=>?_|fail)
   exact RetO.mk (ot1 rfl rfl (.one (.kosl rfl)) rfl) ⟨.buf,.buf,trivial⟩
 ·repeat' (first|refine jx5 ?_|refine jy0 ?_ ?_|exact spF|refine spQ fun hq hq'=>?_|refine spN fun hn=>?_|fail)
  exact RetO.mk (ot1 rfl rfl (.one (.kosl rfl)) rfl) ⟨.buf,.buf,trivial⟩
theorem bytesO_o (n:Nat) (bs:List Nat) (h:bs.length≤1000000000):OCall Tryz.prog 64 [.o (.ptr 1000 n 0)] (memL [(1000,(n+1,some (.abs (wrA bs))))]) (.o (.osl 9 1 1 0 bs.length)) (memL [(1000,(n+1,some (.abs (wrA bs)))),(9,(2,some (.buf 5 1 (bs.map bR))))]):=by
 refine ocall_lm 9 Tryz.func64 rfl (fun w0 F S0 M0=>?_)
 refine aws_says (says_unpack' (p:=1000) (o:=901) rfl rfl (List.length_map _) rfl (by decide)) ?_
 have hO:∀ g k:Nat,OCAt Tryz.prog 143 [.o (.osl 901 g 1 0 bs.length)] [(901,(g+1,some (.buf 5 1 (bs.map bR))))] [(9,k)] (.o (.osl 9 (k+1) 1 0 bs.length)) [(901,(g+1,some (.buf 5 1 (bs.map bR)))),(9,(k+2,some (.buf 5 1 (bs.map bR))))]:=fun g k=>(cloneOO_o g bs h).lf (by decide) 901 9 k (by decide)
 have hO0:=hO 0 0
 clear hO
 repeat' (first|refine jx8 ?_|refine jy0 ?_ ?_|exact spF|refine spQ fun hq hq'=>?_|refine spN fun hn=>?_|fail)
 refine aws_says (says_pack (p:=1000) (o:=901) (pre:=[]) (post:=[]) rfl rfl rfl rfl (by rw [List.length_map]) (by decide)) ?_
 as_aux_lemma=>
  repeat' (first|refine jx5 ?_|refine jy0 ?_ ?_|exact spF|refine spQ fun hq hq'=>?_|refine spN fun hn=>?_|fail)
  exact RetO.mk (ot1 rfl rfl (.one (.kosl rfl)) rfl) ⟨.abs,.buf,trivial⟩
end
structure MOk (m:Msg):Prop where
 kind:1≤m.kind∧m.kind≤7
 frm:1≤m.frm∧m.frm≤8
 to:1≤m.to∧m.to≤8
 ses:0≤m.ses∧m.ses≤1099511627776
 part:0≤m.part∧m.part < 8
 pls:∀ p∈m.pls,0≤p∧p≤20
 pl:m.pls.length≤16
 dl:m.dgs.length≤16
 kds:keysF m.kds=true
 own:m=ownM m
theorem levelF_cases {p n:Int} (h:levelF p=n) (h0:0≤n):(n=0∧p=0)∨(n=1∧1≤p∧p≤4)∨(n=2∧5≤p∧p≤20):=by
 unfold levelF at h
 split at h
 ·exact .inl ⟨h.symm,by assumption⟩
 ·split at h
  ·exact .inr (.inl ⟨h.symm,by assumption⟩)
  ·split at h
   ·exact .inr (.inr ⟨h.symm,by assumption⟩)
   ·omega
theorem lvl_up {l:List Int} {n:Int} (h:lvlF l n=true):∀ i:Nat,i < l.length→l.getD 0 default+i≤l.getD i default
 | 0,_=>by simp
 | i+1,hi=>by
  have ih:=lvl_up h i (by omega)
  have h1:=(of_decide_eq_true h).1 (i+1) hi
  unfold lvlAt at h1
  rw [Bool.and_eq_true,Bool.or_eq_true,decide_eq_true_iff,decide_eq_true_iff,decide_eq_true_iff] at h1
  rcases h1.2 with q|q
  ·omega
  ·rw [show i+1 - 1=i from rfl] at q;omega
theorem lvl_in {l:List Int} {n:Int} (h:lvlF l n=true):∀ i:Nat,i < l.length→levelF (l.getD i default)=n:=fun i hi=>by
 have h1:=(of_decide_eq_true h).1 i hi
 unfold lvlAt at h1
 rw [Bool.and_eq_true,decide_eq_true_iff] at h1
 exact h1.1
theorem lvl_fit {l:List Int} {n:Int} (h:lvlF l n=true) (h0:0≤n):(∀ p∈l,0≤p∧p≤20)∧l.length≤16∧(n≤1→l.length≤4):=by
 have hpos:=(of_decide_eq_true h).2
 refine ⟨fun p hp=>?_,?_⟩
 ·obtain ⟨i,hi,rfl⟩:=getD_mem hp
  have:=levelF_cases (lvl_in h i hi) h0
  omega
 ·have h1:=levelF_cases (lvl_in h 0 hpos) h0
  have h2:=levelF_cases (lvl_in h (l.length - 1) (by omega)) h0
  have h3:=lvl_up h (l.length - 1) (by omega)
  constructor
  ·omega
  ·intro hn;omega
theorem right_ok {m:Msg} (hr:rightM m=true):MOk m:=by
 unfold rightM at hr
 simp only [Bool.and_eq_true,Bool.or_eq_true,decide_eq_true_iff] at hr
 obtain ⟨hb,hs,hf,ht , -,ho⟩:=hr
 have own:=sameM_iff.1 ho
 have k1:m.kind≠2→m.kind≠3→m.kind≠6→m.kind≠5→m.pls=[]:=fun a b c d=>by
  have:m.pls=(ownM m).pls:=by rw [← own]
  rw [this];unfold ownM;simp [a,b,c,d]
 have k2:m.kind≠5→m.dgs=[]:=fun a=>by
  have:m.dgs=(ownM m).dgs:=by rw [← own]
  rw [this];unfold ownM;simp [a]
 have k3:m.kind≠3→m.kind≠6→m.kind≠7→m.kds=[]:=fun a b c=>by
  have:m.kds=(ownM m).kds:=by rw [← own]
  rw [this];unfold ownM;simp [a,b,c]
 have k4:m.kind=7→m.ses=0∧m.part=0:=fun a=>by
  constructor
  ·have:m.ses=(ownM m).ses:=by rw [← own]
   rw [this];unfold ownM;simp [a]
  ·have:m.part=(ownM m).part:=by rw [← own]
   rw [this];unfold ownM;simp [a]
 have hsp:(0≤m.ses∧m.ses≤1099511627776)∧0≤m.part∧m.part < 8:=by
  rcases hs with q|q
  ·have:=k4 q;omega
  ·unfold sesF at q
   simp only [Bool.and_eq_true,decide_eq_true_iff] at q
   omega
 have kn:keysF []=true:=rfl
 unfold bodyM at hb
 have hd:(1≤m.kind∧m.kind≤7)∧(∀ p∈m.pls,0≤p∧p≤20)∧m.pls.length≤16∧m.dgs.length≤16∧keysF m.kds=true:=by
  split at hb
  ·rename_i q
   rw [k1 (by omega) (by omega) (by omega) (by omega),k2 (by omega),k3 (by omega) (by omega) (by omega)]
   exact ⟨by omega,fun p hp=>(by cases hp),by simp,by simp,kn⟩
  ·split at hb
   ·rename_i q
    obtain ⟨f1,f2 , -⟩:=lvl_fit hb (by decide)
    rw [k2 (by omega),k3 (by omega) (by omega) (by omega)]
    exact ⟨by omega,f1,f2,by simp,kn⟩
   ·split at hb
    ·rename_i q
     rw [Bool.and_eq_true] at hb
     obtain ⟨f1,f2 , -⟩:=lvl_fit hb.1 (by decide)
     have f3:=hb.2
     unfold withinM at f3
     rw [Bool.and_eq_true] at f3
     rw [k2 (by omega)]
     exact ⟨by omega,f1,f2,by simp,f3.1⟩
    ·split at hb
     ·rename_i q
      rw [Bool.and_eq_true,Bool.or_eq_true,decide_eq_true_iff] at hb
      rw [k3 (by omega) (by omega) (by omega)]
      have f:=hb.2
      rcases hb.1 with g|g
      ·obtain ⟨f1,f2,f3⟩:=lvl_fit g (by decide)
       have:=f3 (by decide)
       exact ⟨by omega,f1,f2,by omega,kn⟩
      ·obtain ⟨f1,f2,f3⟩:=lvl_fit g (by decide)
       have:=f3 (by decide)
       exact ⟨by omega,f1,f2,by omega,kn⟩
     ·split at hb
      ·rename_i q
       rw [Bool.and_eq_true,Bool.and_eq_true] at hb
       rw [k1 (by omega) (by omega) (by omega) (by omega),k2 (by omega)]
       exact ⟨by omega,fun p hp=>(by cases hp),by simp,by simp,hb.2.1⟩
      ·cases hb
 exact ⟨hd.1,hf,ht,hsp.1,hsp.2,hd.2.1,hd.2.2.1,hd.2.2.2.1,hd.2.2.2.2,own⟩
end Go.Proofs.YtcbhmngagibhmaaGreat.Wi
