/- messages: a writer's bytes as an own slice; plain facts of messages that may be -/
import Derived.Test.YtpgppgehhclfoaaGreatOBB66
import Derived.Test.YtpgppgehhclfoaaGreatOBD78
import Derived.Test.YtpgppgehhclfoaaGreatOBA06
import Derived.Test.YtpgppgehhclfoaaGreatOBB88
import Derived.Test.YtpgppgehhclfoaaGreatOBB82
namespace Go.Proofs.YtpgppgehhclfoaaGreat.Wi
open Go Go.RowKit Go.Aw Go.Aw.Cart Go.Aw.Tree Go.Proofs.YtpgppgehhclfoaaGreat.Ca Go.Proofs.YtpgppgehhclfoaaGreat.Rg
set_option linter.unusedVariables false
set_option linter.unusedSimpArgs false
set_option maxRecDepth 8000
set_option maxHeartbeats 4000000
theorem lop_ap_oo {C:Ctx} {o:Oper} {σ:St} {l m:List Nat} {T e ty:TypeId} {x y:Operand} {sz by_:Nat} {ke:TK} {be:Nat} {z:List Value} {ob g n len ob2 g2 n2 len2:Nat} (ho:o.op=.call ⟨.builtin .append,#[x,y],#[T,T]⟩) (hT:TI C.P T (.slice e) sz by_) (he:TI C.P e ke 1 be) (hz:TZ C.P e z)
  (hx:σ.look x=.o (.osl ob g 1 0 len)) (hm:σ.mem ob=(n,some (.buf e 1 (m.map bR)))) (hn:n=g+1) (hlr:len=m.length) (hy:σ.look y=.o (.osl ob2 g2 1 0 len2)) (hm2:σ.mem ob2=(n2,some (.buf ty 1 (l.map bR)))) (hn2:n2=g2+1) (hl2:len2=l.length)
  (hzl:z.length=1) (h63:m.length+l.length≤maxLen) (hby:(m.length+l.length) * be≤140737488355328) (hd:dOk C o.dst=true) :
  LOp C o σ ⟨.o (.osl ob n 1 0 (m++l).length),[(ob,(n+1,some (.buf e 1 ((m++l).map bR))))]⟩ (fun q=>q == ob2||q == ob):=by
 subst hl2
 have hsrc:=src_osl (C:=C) (lo:=0) (len:=l.length) hy hm2 hn2 (by rw [List.length_map];omega)
 rw [List.drop_zero,List.take_of_length_le (by rw [List.length_map];exact Nat.le_refl _)] at hsrc
 have:=lop_append_osl (o:=o) ho hx hm hn (by simpa using hlr) hsrc hzl (by rw [List.length_map,List.length_map];exact h63) (by rw [List.length_map,List.length_map];exact hby) hd
 simpa using this
theorem ocall_lm (q:Nat) {P:Program} {f:FuncId} {fn:Func} {body:Code} {args:List AV} {r:AV} {m0 m1 mq:Nat × Option MO} (hf:P.funcs[f]?=some fn) (hb:fn.body=some body)
  (h:∀ w0 F S0 M0,AWs ⟨P,w0,F,S0,max args.length fn.ntmps,none,M0⟩ [body] (RetO P fn r (kIn [(1000,m1),(q,mq)]) (memL [(1000,m1),(q,mq)])) ⟨fun t=>args.getD t .un,memL [(1000,m0)]⟩):OCall P f args (memL [(1000,m0)]) r (memL [(1000,m1),(q,mq)]):=by
 refine ocall_of (kIn [(1000,m1),(q,mq)]) hf hb (fun o ho=>?_) h
 have:o≠1000:=fun e=>by subst e;simp [kIn] at ho
 simp [memL,this]
theorem lop_cl {C:Ctx} {o:Oper} {σ:St} {f:FuncId} {x0:Operand} {ts:Array TypeId} {a0 r:AV} {c n d k:Nat} {mo:MO} {upds:List (Nat × (Nat × Option MO))} (ho:o.op=.call ⟨.value (.func f),#[x0],ts⟩) (hfn:FnT C.P f) (h0:σ.look x0=a0) (hc:OCAt C.P f [a0] [(c,(n,some mo))] [(d,k)] r upds)
  (hm:σ.mem c=(n,some mo)) (hfr:(σ.mem d).1=k) (hs:kIn upds c=true) (hs':kIn upds d=true) (hd:dOk C o.dst=true):LOp C o σ ⟨r,upds⟩ (kIn upds):=
 lop_ocall ho hfn (.cons h0 .nil) hc (fun p hp=>by simp at hp;subst hp;exact hm) (fun p hp=>by simp at hp;subst hp;exact hfr) (fun p hp=>by simp at hp;subst hp;exact hs) (fun p hp=>by simp at hp;subst hp;exact hs') hd
namespace T6
theorem lopC {C:Ctx} {o:Oper} {σ:St} {e:Eff} {ro:Nat→Bool} (h:LOp C o σ e ro:=by
  first|(apply lop_cl;(focus rfl);(focus exact inferInstance);(focus rfl);(focus assumption);(focus rfl);(focus rfl);(focus rfl);(focus rfl);(focus rfl))|(apply lop_bz;(focus rfl);(focus exact inferInstance);(focus exact inferInstance);(focus exact inferInstance);(focus rfl);(focus rfl);(focus rfl))|(apply lop_ap_oo;(focus rfl);(focus exact inferInstance);(focus exact inferInstance);(focus exact inferInstance);(focus rfl);(focus rfl);(focus rfl);(focus rfl);(focus rfl);(focus rfl);(focus rfl);(focus rfl);(focus rfl);(focus first|(simp only [maxLen,List.length_append,List.length_cons,List.length_nil,List.length_take,List.length_drop,List.length_map];omega)|omega);(focus first|(simp only [maxLen,List.length_append,List.length_cons,List.length_nil,List.length_take,List.length_drop,List.length_map];omega)|omega);(focus rfl))|exact T4.lopC|fail):LOp C o σ e ro:=h
section steps
variable {C:Ctx} {ops:Array Oper} {o:Oper} {rest:List Oper} {K:St→Prop} {σ:St} {e:Eff} {ro:Nat→Bool} {W:List (Nat × Nat)} {i:Nat}
theorem rnC {d:Nat} (hg:Guard ops σ o true:=by first|exact gd_n rfl rfl|exact gd_t rfl rfl rfl rfl|exact gd_t rfl rfl rfl (by assumption)) (hd:o.dst=some d:=by rfl) (h:LOp C o σ e ro:=by exact lopC) (hk:RunN C ops rest K (e.app (some d) σ)):RunN C ops (o::rest) K σ:=rn_any hg hd h hk
theorem rkC {d:Nat} (hg:Guard ops σ o true:=by first|exact gd_n rfl rfl|exact gd_t rfl rfl rfl rfl|exact gd_t rfl rfl rfl (by assumption)) (hd':o.dst=some d:=by rfl) (hd:dOk C o.dst=true:=by rfl) (h:LOp C o σ e ro:=by exact lopC) (hro:∀ x,ro x=true→okObj ops W i x=true:=by first|exact fun _=>ro_none|exact ro_one rfl|exact ro_k1 rfl|exact ro_one (by kernel_rfl)|exact ro_k1 (by kernel_rfl)|exact ro_kIn (by decide)) (hob:∀ p∈e.obj,(i,p.1)∈W:=by first|exact ob_none|exact ob_one (by decide)|decide) (hk:RunK C ops W (i+1) rest K (e.app (some d) σ)):RunK C ops W i (o::rest) K σ:=rk_wr hg hd' hd h hro hob hk
end steps
end T6
section
open T6
theorem cloneOO_o (n:Nat) (l:List Nat) (h:l.length≤1000000000):OCall Tryz.prog 124 [.o (.osl 1000 n 1 0 l.length)] (memL [(1000,(n+1,some (.buf 5 1 (l.map bR))))]) (.o (.osl 5 1 1 0 l.length)) (memL [(1000,(n+1,some (.buf 5 1 (l.map bR)))),(5,(2,some (.buf 5 1 (l.map bR))))]):=by
 refine ocall_lm 5 Tryz.func124 rfl (fun w0 F S0 M0=>?_)
 repeat' (first|refine jx8 ?_|refine jy0 ?_ ?_|exact spF|refine spQ fun hq hq'=>?_|refine spN fun hn=>?_|fail)
 ·have e:l=[]:=List.eq_nil_of_length_eq_zero hn
  subst e
  refine aws_says (says_bump (o:=5) (ty:=5) (es:=1) rfl (by decide)) ?_
  refine aws_says (says_nil (t:=2) (o:=5) (ty:=5) (es:=1) rfl rfl (by decide)) ?_
  as_aux_lemma=>
   repeat' (first|refine jx5 ?_|refine jy0 ?_ ?_|exact spF|refine spQ fun hq hq'=>?_|refine spN fun hn=>?_|fail)
   exact RetO.mk (ot1 rfl rfl (.one (.kosl rfl)) rfl) ⟨.buf,.buf,trivial⟩
 ·repeat' (first|refine jx5 ?_|refine jy0 ?_ ?_|exact spF|refine spQ fun hq hq'=>?_|refine spN fun hn=>?_|fail)
  exact RetO.mk (ot1 rfl rfl (.one (.kosl rfl)) rfl) ⟨.buf,.buf,trivial⟩
theorem bytesO_o (n:Nat) (bs:List Nat) (h:bs.length≤1000000000):OCall Tryz.prog 63 [.o (.ptr 1000 n 0)] (memL [(1000,(n+1,some (.abs (wrA bs))))]) (.o (.osl 9 1 1 0 bs.length)) (memL [(1000,(n+1,some (.abs (wrA bs)))),(9,(2,some (.buf 5 1 (bs.map bR))))]):=by
 refine ocall_lm 9 Tryz.func63 rfl (fun w0 F S0 M0=>?_)
 refine aws_says (says_unpack' (p:=1000) (o:=901) rfl rfl (List.length_map _) rfl (by decide)) ?_
 have hO:∀ g k:Nat,OCAt Tryz.prog 124 [.o (.osl 901 g 1 0 bs.length)] [(901,(g+1,some (.buf 5 1 (bs.map bR))))] [(9,k)] (.o (.osl 9 (k+1) 1 0 bs.length)) [(901,(g+1,some (.buf 5 1 (bs.map bR)))),(9,(k+2,some (.buf 5 1 (bs.map bR))))]:=fun g k=>(cloneOO_o g bs h).lf (by decide) 901 9 k (by decide)
 have hO0:=hO 0 0
 clear hO
 repeat' (first|refine jx8 ?_|refine jy0 ?_ ?_|exact spF|refine spQ fun hq hq'=>?_|refine spN fun hn=>?_|fail)
 refine aws_says (says_pack (p:=1000) (o:=901) (pre:=[]) (post:=[]) rfl rfl rfl rfl (by rw [List.length_map]) (by decide)) ?_
 as_aux_lemma=>
  repeat' (first|refine jx5 ?_|refine jy0 ?_ ?_|exact spF|refine spQ fun hq hq'=>?_|refine spN fun hn=>?_|fail)
  exact RetO.mk (ot1 rfl rfl (.one (.kosl rfl)) rfl) ⟨.abs,.buf,trivial⟩
end
structure MOk (m:Msg):Prop where
 kind:1≤m.kind∧m.kind≤7
 frm:1≤m.frm∧m.frm≤8
 to:1≤m.to∧m.to≤8
 ses:0≤m.ses∧m.ses≤1099511627776
 part:0≤m.part∧m.part < 8
 pls:∀ p∈m.pls,0≤p∧p≤20
 pl:m.pls.length≤16
 dl:m.dgs.length≤16
 kds:keysF m.kds=true
 own:m=ownM m
theorem levelF_cases {p n:Int} (h:levelF p=n) (h0:0≤n):(n=0∧p=0)∨(n=1∧1≤p∧p≤4)∨(n=2∧5≤p∧p≤20):=by
 unfold levelF at h
 split at h
 ·exact .inl ⟨h.symm,by assumption⟩
 ·split at h
  ·exact .inr (.inl ⟨h.symm,by assumption⟩)
  ·split at h
   ·exact .inr (.inr ⟨h.symm,by assumption⟩)
   ·omega
theorem lvl_up {l:List Int} {n:Int} (h:lvlF l n=true):∀ i:Nat,i < l.length→l.getD 0 default+i≤l.getD i default
 | 0,_=>by simp
 | i+1,hi=>by
  have ih:=lvl_up h i (by omega)
  have h1:=(of_decide_eq_true h).1 (i+1) hi
  unfold lvlAt at h1
  rw [Bool.and_eq_true,Bool.or_eq_true,decide_eq_true_iff,decide_eq_true_iff,decide_eq_true_iff] at h1
  rcases h1.2 with q|q
  ·omega
  ·rw [show i+1 - 1=i from rfl] at q;omega
theorem lvl_in {l:List Int} {n:Int} (h:lvlF l n=true):∀ i:Nat,i < l.length→levelF (l.getD i default)=n:=fun i hi=>by
 have h1:=(of_decide_eq_true h).1 i hi
 unfold lvlAt at h1
 rw [Bool.and_eq_true,decide_eq_true_iff] at h1
 exact h1.1
theorem lvl_fit {l:List Int} {n:Int} (h:lvlF l n=true) (h0:0≤n):(∀ p∈l,0≤p∧p≤20)∧l.length≤16∧(n≤1→l.length≤4):=by
 have hpos:=(of_decide_eq_true h).2
 refine ⟨fun p hp=>?_,?_⟩
 ·obtain ⟨i,hi,rfl⟩:=getD_mem hp
  have:=levelF_cases (lvl_in h i hi) h0
  omega
 ·have h1:=levelF_cases (lvl_in h 0 hpos) h0
  have h2:=levelF_cases (lvl_in h (l.length - 1) (by omega)) h0
  have h3:=lvl_up h (l.length - 1) (by omega)
  constructor
  ·omega
  ·intro hn;omega
theorem right_ok {m:Msg} (hr:rightM m=true):MOk m:=by
 unfold rightM at hr
 simp only [Bool.and_eq_true,Bool.or_eq_true,decide_eq_true_iff] at hr
 obtain ⟨hb,hs,hf,ht , -,ho⟩:=hr
 have own:=sameM_iff.1 ho
 have k1:m.kind≠2→m.kind≠3→m.kind≠6→m.kind≠5→m.pls=[]:=fun a b c d=>by
  have:m.pls=(ownM m).pls:=by rw [← own]
  rw [this];unfold ownM;simp [a,b,c,d]
 have k2:m.kind≠5→m.dgs=[]:=fun a=>by
  have:m.dgs=(ownM m).dgs:=by rw [← own]
  rw [this];unfold ownM;simp [a]
 have k3:m.kind≠3→m.kind≠6→m.kind≠7→m.kds=[]:=fun a b c=>by
  have:m.kds=(ownM m).kds:=by rw [← own]
  rw [this];unfold ownM;simp [a,b,c]
 have k4:m.kind=7→m.ses=0∧m.part=0:=fun a=>by
  constructor
  ·have:m.ses=(ownM m).ses:=by rw [← own]
   rw [this];unfold ownM;simp [a]
  ·have:m.part=(ownM m).part:=by rw [← own]
   rw [this];unfold ownM;simp [a]
 have hsp:(0≤m.ses∧m.ses≤1099511627776)∧0≤m.part∧m.part < 8:=by
  rcases hs with q|q
  ·have:=k4 q;omega
  ·unfold sesF at q
   simp only [Bool.and_eq_true,decide_eq_true_iff] at q
   omega
 have kn:keysF []=true:=rfl
 unfold bodyM at hb
 have hd:(1≤m.kind∧m.kind≤7)∧(∀ p∈m.pls,0≤p∧p≤20)∧m.pls.length≤16∧m.dgs.length≤16∧keysF m.kds=true:=by
  split at hb
  ·rename_i q
   rw [k1 (by omega) (by omega) (by omega) (by omega),k2 (by omega),k3 (by omega) (by omega) (by omega)]
   exact ⟨by omega,fun p hp=>(by cases hp),by simp,by simp,kn⟩
  ·split at hb
   ·rename_i q
    obtain ⟨f1,f2 , -⟩:=lvl_fit hb (by decide)
    rw [k2 (by omega),k3 (by omega) (by omega) (by omega)]
    exact ⟨by omega,f1,f2,by simp,kn⟩
   ·split at hb
    ·rename_i q
     rw [Bool.and_eq_true] at hb
     obtain ⟨f1,f2 , -⟩:=lvl_fit hb.1 (by decide)
     have f3:=hb.2
     unfold withinM at f3
     rw [Bool.and_eq_true] at f3
     rw [k2 (by omega)]
     exact ⟨by omega,f1,f2,by simp,f3.1⟩
    ·split at hb
     ·rename_i q
      rw [Bool.and_eq_true,Bool.or_eq_true,decide_eq_true_iff] at hb
      rw [k3 (by omega) (by omega) (by omega)]
      have f:=hb.2
      rcases hb.1 with g|g
      ·obtain ⟨f1,f2,f3⟩:=lvl_fit g (by decide)
       have:=f3 (by decide)
       exact ⟨by omega,f1,f2,by omega,kn⟩
      ·obtain ⟨f1,f2,f3⟩:=lvl_fit g (by decide)
       have:=f3 (by decide)
       exact ⟨by omega,f1,f2,by omega,kn⟩
     ·split at hb
      ·rename_i q
       rw [Bool.and_eq_true,Bool.and_eq_true] at hb
       rw [k1 (by omega) (by omega) (by omega) (by omega),k2 (by omega)]
       exact ⟨by omega,fun p hp=>(by cases hp),by simp,by simp,hb.2.1⟩
      ·cases hb
 exact ⟨hd.1,hf,ht,hsp.1,hsp.2,hd.2.1,hd.2.2.1,hd.2.2.2.1,hd.2.2.2.2,own⟩
end Go.Proofs.YtpgppgehhclfoaaGreat.Wi
namespace Go.Proofs.YtpgppgehhclfoaaGreat.Wi
open Go Go.RowKit Go.Aw Go.Aw.Cart Go.Aw.Tree Go.Proofs.YtpgppgehhclfoaaGreat.Ca Go.Proofs.YtpgppgehhclfoaaGreat.Rg
set_option linter.unusedVariables false
set_option linter.unusedSimpArgs false
set_option maxRecDepth 8000
set_option maxHeartbeats 4000000
def headM (m:Msg):List Int:=[m.kind,m.frm,m.to,m.ses,m.part]
def msgH (m:Msg):List Nat:=(headM m).flatMap numI++((if m.kind=1 then m.dig else [])++(numB m.pls.length++(m.pls.flatMap numI++(numB m.dgs.length++m.dgs.flatMap id))))
def msgB (m:Msg):List Nat:=msgH m++listB m.kds
theorem nums_le (l:List Int):(l.flatMap numI).length≤9 * l.length:=by
 induction l with
 | nil=>exact Nat.le_refl _
 | cons a l ih=>
  rw [List.flatMap_cons,List.length_append,List.length_cons]
  have:=numI_len a
  omega
theorem digs_le {l:List (List Nat)} (h:∀ d∈l,d.length=32):(l.flatMap id).length=32 * l.length:=by
 induction l with
 | nil=>rfl
 | cons a l ih=>
  rw [List.flatMap_cons,List.length_append,List.length_cons,ih fun d hd=>h d (List.mem_cons_of_mem _ hd)]
  have:=h a List.mem_cons_self
  show a.length+_=_
  omega
theorem kdI_le {l:List Kd} (hk:keysF l=true) (hin:∀ k∈l,KdI k):(listB l).length≤50000000:=by
 have ho:=keys_iff.1 hk
 have h1:=ho.few
 have h2:(l.flatMap kdB).length≤20029 * l.length:=by
  have key:∀ l:List Kd,(∀ k∈l,(kdB k).length≤20029)→(l.flatMap kdB).length≤20029 * l.length:=by
   intro l h
   induction l with
   | nil=>exact Nat.le_refl _
   | cons a l ih=>
    rw [List.flatMap_cons,List.length_append,List.length_cons]
    have q1:=h a List.mem_cons_self
    have q2:=ih fun d hd=>h d (List.mem_cons_of_mem _ hd)
    omega
  exact key l fun k hk=>kdB_len (ho.key k hk) (hin k hk).vec (ho.cart k hk)
 have h3:=numI_len (l.length:Int)
 rw [numI_nat] at h3
 unfold listB
 rw [List.length_append]
 omega
namespace T7
theorem lopC {C:Ctx} {o:Oper} {σ:St} {e:Eff} {ro:Nat→Bool} (h:LOp C o σ e ro:=by
  first|(apply lop_build_ar;(focus rfl);(focus exact inferInstance);(focus exact inferInstance);(focus exact inferInstance);(focus repeat' (first|exact All2.nil|apply bp_cons rfl));(focus decide);(focus exact sn5 rfl);(focus rfl))|exact T6.lopC|fail):LOp C o σ e ro:=h
section steps
variable {C:Ctx} {ops:Array Oper} {o:Oper} {rest:List Oper} {K:St→Prop} {σ:St} {e:Eff} {ro:Nat→Bool} {W:List (Nat × Nat)} {i:Nat}
theorem rnC {d:Nat} (hg:Guard ops σ o true:=by first|exact gd_n rfl rfl|exact gd_t rfl rfl rfl rfl|exact gd_t rfl rfl rfl (by assumption)) (hd:o.dst=some d:=by rfl) (h:LOp C o σ e ro:=by exact lopC) (hk:RunN C ops rest K (e.app (some d) σ)):RunN C ops (o::rest) K σ:=rn_any hg hd h hk
theorem rkC {d:Nat} (hg:Guard ops σ o true:=by first|exact gd_n rfl rfl|exact gd_t rfl rfl rfl rfl|exact gd_t rfl rfl rfl (by assumption)) (hd':o.dst=some d:=by rfl) (hd:dOk C o.dst=true:=by rfl) (h:LOp C o σ e ro:=by exact lopC) (hro:∀ x,ro x=true→okObj ops W i x=true:=by first|exact fun _=>ro_none|exact ro_one rfl|exact ro_k1 rfl|exact ro_one (by kernel_rfl)|exact ro_k1 (by kernel_rfl)|exact ro_kIn (by decide)) (hob:∀ p∈e.obj,(i,p.1)∈W:=by first|exact ob_none|exact ob_one (by decide)|decide) (hk:RunK C ops W (i+1) rest K (e.app (some d) σ)):RunK C ops W i (o::rest) K σ:=rk_wr hg hd' hd h hro hob hk
end steps
end T7
open T7
theorem mwrite_ok (m:Msg) (h:MIn m) (hr:rightM m=true):PCall Tryz.prog 13 [mV m] (.tup [.one (.p (.sl 1 ((msgB m).map bR) false)),.one (.p (.i 0))]):=by
 refine pcall_of Tryz.func13 rfl (fun w0 F S0 M0=>?_)
 have ok:=right_ok hr
 have hm:=h.d32
 have h32:(m.dig.map bcD).length=32:=by rw [List.length_map];exact hm
 haveI i0:PC Tryz.prog 16 [mV m] True (.p (.b true)):=⟨fun _=>by have:=mright_w m h;rwa [hr] at this⟩
 have d0:(!true)=false:=rfl
 have pl:=ok.pl
 have dl:=ok.dl
 have hnl:=numI_len (m.pls.length:Int)
 have hdl:=numI_len (m.dgs.length:Int)
 rw [numI_nat] at hnl hdl
 have hkd:=kdI_le ok.kds h.kd
 haveI i1:PC Tryz.prog 62 [.p (.sl 10 (m.kds.map kR) false)] True (.tup [.one (.p (.sl 1 ((listB m.kds).map bR) false)),.one (.p (.i 0))]):=⟨fun _=>writeAll_ok m.kds false ok.kds h.kd⟩
 have hhd:∀ x∈headM m,0≤x∧x≤1099511627776:=by
  intro x hx
  simp only [headM,List.mem_cons,List.not_mem_nil,or_false] at hx
  have k1:=ok.kind
  have k2:=ok.frm
  have k3:=ok.to
  have k4:=ok.ses
  have k5:=ok.part
  rcases hx with rfl|rfl|rfl|rfl|rfl<;>omega
 have hpls:=ok.pls
 have hdg:=fun d hd=>(h.dg d hd).1
 clear h ok
 repeat' (first|refine jx5 ?_|refine jy0 ?_ ?_|exact spF|refine spQ fun hq hq'=>?_|refine spN fun hn=>?_|fail)
 refine aws_says (says_wr (p:=17) rfl) ?_
 refine aws_loopS [6,29,30,31,32,33,34,35,36] [17] (fun (x:Nat × List Nat)=>[(29,.p (.i x.1))]) (fun x=>[(17,(1,some (.abs (wrA x.2))))]) (fun x=>x.1≤5∧x.2=((headM m).take x.1).flatMap numI) (fun x=>5 - x.1) (0,[]) ⟨Nat.zero_le _,rfl⟩ (by exact knA) (by exact knA) ?_
 rintro ⟨i,L⟩ β γ ⟨hi,hL⟩
 dsimp only at hi hL ⊢
 by_cases hi5:i < 5
 ·have d1:decide ((i:Int) < 5)=true:=decide_eq_true (by omega)
  have ei:(i:Int).toNat=i:=Int.toNat_natCast i
  have hil:i < (headM m).length:=hi5
  have hft:=flat_take numI hil
  rw [← hL,show (headM m).getD i default=(headM m).getD (i:Int).toNat default by rw [ei]] at hft
  have hx:=hhd ((headM m).getD (i:Int).toNat default) (by rw [ei,getD_at hil];exact List.getElem_mem _)
  have hLl:L.length≤1000:=by
   rw [hL]
   have:=nums_le ((headM m).take i)
   rw [List.length_take] at this
   have:(headM m).length=5:=rfl
   omega
  repeat' (first|refine jx5 ?_|refine jy0 ?_ ?_|exact spF|refine spQ fun hq hq'=>?_|refine spN fun hn=>?_|fail)
  refine rn_any (gd_n rfl rfl) rfl (lop_ixv (f:=fun n:Int=>AC.p (.i n)) (l:=headM m) rfl inferInstance inferInstance rfl rfl inferInstance (by omega) (by omega) (by show (i:Int) < ((5:Nat):Int);omega) rfl rfl rfl rfl) ?_
  generalize (headM m).getD (i:Int).toNat default=X at hx hft ⊢
  have hw:IntKind.u64.wrap X=X:=u64_in (by omega)
  as_aux_lemma=>
   repeat' (first|refine jx5 ?_|refine jy0 ?_ ?_|exact spF|refine spQ fun hq hq'=>?_|refine spN fun hn=>?_|fail)
   exact ⟨(i+1,L++numI X),_,by dsimp only;omega,⟨by dsimp only;omega,hft.symm⟩,.refl,by exact frA⟩
 ·have d1:decide ((i:Int) < 5)=false:=decide_eq_false (by omega)
  obtain rfl:i=5:=by omega
  rw [show (headM m).take 5=headM m from rfl] at hL
  have hLl:L.length≤45:=by
   rw [hL]
   exact nums_le (headM m)
  clear hhd
  obtain ⟨D,hD⟩:∃ D,D=if m.kind=1 then m.dig else []:=⟨_,rfl⟩
  have hLD:(L++D).length≤77:=by
   rw [List.length_append,hD]
   split
   ·omega
   ·simp;omega
  have hgoal:msgB m=((((L++D)++numB m.pls.length)++m.pls.flatMap numI)++numB m.dgs.length)++m.dgs.flatMap id++listB m.kds:=by
   rw [hL,hD]
   unfold msgB msgH
   simp only [List.append_assoc]
  rw [hgoal]
  clear hgoal hL
  generalize listB m.kds=KB at i1 hkd ⊢
  repeat' (first|refine jx5 ?_|fail)
  refine aws_mid (fun _:Unit=>True) (fun _=>[(1,.o (.ptr 1 0 0)),(4,.o (.ptr 17 0 0))]) (fun _=>[(1,(1,some (.box 28 (mL m)))),(17,(1,some (.abs (wrA (L++D))))),(10,(0,none)),(86,(0,none))]) ?_ ?_
  ·by_cases q1:m.kind=1
   ·have d2:decide (m.kind=1)=true:=decide_eq_true q1
    rw [if_pos q1] at hD
    rw [hD]
    clear hD hLD
    as_aux_lemma=>
     repeat' (first|refine jx5 ?_|refine jy0 ?_ ?_|exact spF|refine spQ fun hq hq'=>?_|refine spN fun hn=>?_|fail)
     exact ⟨(),trivial,by exact knA,by exact knA⟩
   ·have d2:decide (m.kind=1)=false:=decide_eq_false q1
    rw [if_neg q1] at hD
    rw [hD,List.append_nil]
    clear hD hLD
    as_aux_lemma=>
     repeat' (first|refine jx5 ?_|refine jy0 ?_ ?_|exact spF|refine spQ fun hq hq'=>?_|refine spN fun hn=>?_|fail)
     exact ⟨(),trivial,by exact knA,by exact knA⟩
  rintro ⟨⟩ ν -
  clear hD
  generalize L++D=L1 at hLD ⊢
  have hL2:(L1++numB m.pls.length).length≤86:=by rw [List.length_append];omega
  repeat' (first|refine jx5 ?_|refine jy0 ?_ ?_|exact spF|refine spQ fun hq hq'=>?_|refine spN fun hn=>?_|fail)
  generalize L1++numB m.pls.length=L2 at hL2 ⊢
  refine aws_loopS [8,53,54,55,56,57,58,59,60,61] [17] (fun (x:Nat × List Nat)=>[(53,.p (.i x.1))]) (fun x=>[(17,(1,some (.abs (wrA x.2))))]) (fun x=>x.1≤m.pls.length∧x.2=L2++(m.pls.take x.1).flatMap numI) (fun x=>m.pls.length - x.1) (0,L2) ⟨Nat.zero_le _,(List.append_nil _).symm⟩ (by exact knA) (by exact knA) ?_
  rintro ⟨i,B⟩ β γ ⟨hi,hB⟩
  dsimp only at hi hB ⊢
  have hBl:B.length≤230:=by
   rw [hB,List.length_append]
   have:=nums_le (m.pls.take i)
   rw [List.length_take] at this
   omega
  by_cases hil:i < m.pls.length
  ·have d1:decide ((i:Int) < (m.pls.length:Int))=true:=decide_eq_true (by omega)
   have ei:(i:Int).toNat=i:=Int.toNat_natCast i
   have hft:=flat_take numI hil
   rw [show m.pls.getD i default=m.pls.getD (i:Int).toNat default by rw [ei]] at hft
   have hx:=hpls (m.pls.getD (i:Int).toNat default) (by rw [ei,getD_at hil];exact List.getElem_mem _)
   have hn:B++numI (m.pls.getD (i:Int).toNat default)=L2++(m.pls.take (i+1)).flatMap numI:=by rw [hft,hB,List.append_assoc]
   have hw:IntKind.u64.wrap (m.pls.getD (i:Int).toNat default)=m.pls.getD (i:Int).toNat default:=u64_in (by omega)
   clear hB hft
   as_aux_lemma=>
    repeat' (first|refine jx5 ?_|refine jy0 ?_ ?_|exact spF|refine spQ fun hq hq'=>?_|refine spN fun hn=>?_|fail)
    exact ⟨(i+1,B++numI (m.pls.getD (i:Int).toNat default)),_,by dsimp only;omega,⟨by dsimp only;omega,hn⟩,.refl,by exact frA⟩
  have d1:decide ((i:Int) < (m.pls.length:Int))=false:=decide_eq_false (by omega)
  obtain rfl:i=m.pls.length:=by omega
  rw [List.take_length] at hB
  rw [← hB]
  clear hB
  have hL3:(B++numB m.dgs.length).length≤240:=by rw [List.length_append];omega
  repeat' (first|refine jx5 ?_|refine jy0 ?_ ?_|exact spF|refine spQ fun hq hq'=>?_|refine spN fun hn=>?_|fail)
  generalize B++numB m.dgs.length=L3 at hL3 ⊢
  refine aws_loopS [10,71,72,73,74,75,76,77,78] [17,10] (fun (x:Nat × List Nat × Option MO)=>[(71,.p (.i x.1))]) (fun x=>[(17,(1,some (.abs (wrA x.2.1)))),(10,(x.1,x.2.2))]) (fun x=>x.1≤m.dgs.length∧x.2.1=L3++(m.dgs.take x.1).flatMap id) (fun x=>m.dgs.length - x.1) (0,L3,none) ⟨Nat.zero_le _,(List.append_nil _).symm⟩ (by exact knA) (by exact knA) ?_
  rintro ⟨j,E,m10⟩ β γ ⟨hj,hE⟩
  dsimp only at hj hE ⊢
  have hEl:E.length≤800:=by
   rw [hE,List.length_append]
   have:=digs_le (l:=m.dgs.take j) fun d hd=>hdg d (List.mem_of_mem_take hd)
   rw [List.length_take] at this
   omega
  by_cases hjl:j < m.dgs.length
  ·have d1:decide ((j:Int) < (m.dgs.length:Int))=true:=decide_eq_true (by omega)
   have ej:(j:Int).toNat=j:=Int.toNat_natCast j
   have hft:=flat_take (id:List Nat→List Nat) hjl
   rw [show m.dgs.getD j default=m.dgs.getD (j:Int).toNat default by rw [ej]] at hft
   have hx:(m.dgs.getD (j:Int).toNat default).length=32:=hdg _ (by rw [ej,getD_at hjl];exact List.getElem_mem _)
   have hn:E++m.dgs.getD (j:Int).toNat default=L3++(m.dgs.take (j+1)).flatMap id:=by rw [hft,hE,List.append_assoc];rfl
   clear hE hft
   as_aux_lemma=>
    repeat' (first|refine jx5 ?_|refine jy0 ?_ ?_|exact spF|refine spQ fun hq hq'=>?_|refine spN fun hn=>?_|fail)
    exact ⟨(j+1,E++m.dgs.getD (j:Int).toNat default,_),_,by dsimp only;omega,⟨by dsimp only;omega,hn⟩,.refl,by exact frA⟩
  have d1:decide ((j:Int) < (m.dgs.length:Int))=false:=decide_eq_false (by omega)
  obtain rfl:j=m.dgs.length:=by omega
  rw [List.take_length] at hE
  rw [← hE]
  clear hE
  have hB:OCAt Tryz.prog 63 [.o (.ptr 17 0 0)] [(17,(1,some (.abs (wrA E))))] [(86,0)] (.o (.osl 86 1 1 0 E.length)) [(17,(1,some (.abs (wrA E)))),(86,(2,some (.buf 5 1 (E.map bR))))]:=(bytesO_o 0 E (by omega)).lf (by decide) 17 86 0 (by decide)
  as_aux_lemma=>
   repeat' (first|refine jx5 ?_|refine jy0 ?_ ?_|exact spF|refine spQ fun hq hq'=>?_|refine spN fun hn=>?_|fail)
   exact rt2 rfl rfl (.one (finC_map rfl rfl rfl rfl)) rfl finS_p rfl
theorem mwrite_no (m:Msg) (h:MIn m) (hr:rightM m=false):PCall Tryz.prog 13 [mV m] (.tup [.one (.p (.sl 1 (([]:List Nat).map bR) false)),.one (.p (.i 3))]):=by
 refine pcall_of Tryz.func13 rfl (fun w0 F S0 M0=>?_)
 have h32:(m.dig.map bcD).length=32:=by rw [List.length_map];exact h.d32
 haveI i0:PC Tryz.prog 16 [mV m] True (.p (.b false)):=⟨fun _=>by have:=mright_w m h;rwa [hr] at this⟩
 have d0:(!false)=true:=rfl
 as_aux_lemma=>
  repeat' (first|refine jx5 ?_|refine jy0 ?_ ?_|exact spF|refine spQ fun hq hq'=>?_|refine spN fun hn=>?_|fail)
  exact rt2 rfl rfl (.one .nil) rfl finS_p rfl
end Go.Proofs.YtpgppgehhclfoaaGreat.Wi
