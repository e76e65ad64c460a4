/- outbox: what is sent and told; marks that are shifted -/
import Derived.Test.YtpgppgehhclfoaaGreatOBC01
import Derived.Test.YtpgppgehhclfoaaGreatOBD78
namespace Go.Proofs.YtpgppgehhclfoaaGreat.Wi
open Go Go.RowKit Go.Aw Go.Aw.Cart Go.Aw.Tree Go.Proofs.YtpgppgehhclfoaaGreat.Ca Go.Proofs.YtpgppgehhclfoaaGreat.Rg
set_option linter.unusedVariables false
set_option linter.unusedSimpArgs false
set_option maxRecDepth 8000
set_option maxHeartbeats 4000000
section
variable {C:Ctx} {o:Oper} {σ:St} {T:TypeId} {x y:Operand} {k:TK} {sz by_ ob g n i:Nat} {ty:TypeId} {v:Int}
theorem lop_buildH {x0 x1:Operand} {m:Msg} {fs:List (Nat × Nat)} {z:List Value} (ho:o.op=.build T #[(0,x0),(1,x1)]) (hF:TF C.P T fs) (hz:TZ C.P T z) (g0:σ.look x0=.a (mL m)) (g1:σ.look x1=.p (.i v)) (h0:fs[0]?=some (0,40)) (h1:fs[1]?=some (40,1)) (hzl:z.length=40+1) (hM:m.dig.length=32) (hz1:z.all (·.oneCell')=true) (hd:dOk C o.dst=true):LOp C o σ ⟨.a ((hmR (m,v)).map .p),[]⟩ (fun _=>false):=by
 rw [← hm_mk]
 exact lop_bld2 ho hF hz g0 g1 rfl h0 h1 hzl (mL_len' hM) rfl hz1 hd
theorem lop_st_hm {l:List Hm} (ho:o.op=.store T x y) (hT:TI C.P T k sz by_) (hdst:o.dst=none) (hx:σ.look x=.o (.ptr ob g (i * 41+40))) (hy:σ.look y=.p (.i v)) (hm:σ.mem ob=(n,some (.buf ty 41 (l.map hmR)))) (hs:sz=1) (hn:n=g+1) (hi:i < l.length) (hd:(l.getD i default).1.dig.length=32) :
  LOp C o σ ⟨.un,[(ob,(n,some (.buf ty 41 ((l.set i ((l.getD i default).1,v)).map hmR))))]⟩ (fun z=>z == ob):=by
 have hg:(l.map hmR)[i]?=some (hmR (l.getD i default)):=by rw [List.getElem?_map,List.getElem?_eq_getElem hi,getD_at hi];rfl
 have:=lop_store_rowp (C:=C) (o:=o) (d:=40) (part:=[.i v]) ho hdst hx hy rfl hs.symm hm hn hg (by omega)
 rw [hs] at this
 have hl:(mR (l.getD i default).1).length=40:=mR_len hd
 have e:(hmR (l.getD i default)).take 40++[PVal.i v]++(hmR (l.getD i default)).drop (40+1)=hmR ((l.getD i default).1,v):=by
  unfold hmR
  rw [List.take_left' hl,List.drop_of_length_le (by rw [List.length_append,hl];exact Nat.le_refl _),List.append_nil]
 rwa [e,← List.map_set] at this
theorem lop_st_ha {l:List Ha} (ho:o.op=.store T x y) (hT:TI C.P T k sz by_) (hdst:o.dst=none) (hx:σ.look x=.o (.ptr ob g (i * 4+3))) (hy:σ.look y=.p (.i v)) (hm:σ.mem ob=(n,some (.buf ty 4 (l.map haR)))) (hs:sz=1) (hn:n=g+1) (hi:i < l.length) :
  LOp C o σ ⟨.un,[(ob,(n,some (.buf ty 4 ((l.set i ((l.getD i default).1,v)).map haR))))]⟩ (fun z=>z == ob):=by
 have hg:(l.map haR)[i]?=some (haR (l.getD i default)):=by rw [List.getElem?_map,List.getElem?_eq_getElem hi,getD_at hi];rfl
 have:=lop_store_rowp (C:=C) (o:=o) (d:=3) (part:=[.i v]) ho hdst hx hy rfl hs.symm hm hn hg (by omega)
 rw [hs] at this
 have e:(haR (l.getD i default)).take 3++[PVal.i v]++(haR (l.getD i default)).drop (3+1)=haR ((l.getD i default).1,v):=rfl
 rwa [e,← List.map_set] at this
theorem lop_buildA {x0 x1:Operand} {a:Ans} {fs:List (Nat × Nat)} {z:List Value} (ho:o.op=.build T #[(0,x0),(1,x1)]) (hF:TF C.P T fs) (hz:TZ C.P T z) (g0:σ.look x0=aV a) (g1:σ.look x1=.p (.i v)) (h0:fs[0]?=some (0,3)) (h1:fs[1]?=some (3,1)) (hzl:z.length=3+1) (hz1:z.all (·.oneCell')=true) (hd:dOk C o.dst=true):LOp C o σ ⟨.a ((haR (a,v)).map .p),[]⟩ (fun _=>false):=
 lop_bld2 ho hF hz g0 g1 rfl h0 h1 hzl rfl rfl hz1 hd
end
section
open T4
theorem cloneN_w (l:List Int) (ex:Bool) (h:l.length≤1000000000):PCall Tryz.prog 98 [.p (.sl 1 (l.map iRw) ex)] (.p (.sl 1 (l.map iRw) false)):=by
 refine pcall_of Tryz.func98 rfl (fun w0 F S0 M0=>?_)
 repeat' (first|refine jx20 ?_|refine jy0 ?_ ?_|exact spF|refine spQ fun hq hq'=>?_|refine spN fun hn=>?_|fail)
 ·have e:l=[]:=List.eq_nil_of_length_eq_zero (by have:=congrArg List.length hn;rwa [List.length_map,List.length_nil] at this)
  subst e
  as_aux_lemma=>
   repeat' (first|refine jx3 ?_|refine jy0 ?_ ?_|exact spF|refine spQ fun hq hq'=>?_|refine spN fun hn=>?_|fail)
   exact rt1 rfl rfl (.one .nil) rfl
 ·repeat' (first|refine jx3 ?_|refine jy0 ?_ ?_|exact spF|refine spQ fun hq hq'=>?_|refine spN fun hn=>?_|fail)
  exact rt1 rfl rfl finS_p rfl
instance cloneN_i {l:List Int} {ex:Bool}:PC Tryz.prog 98 [.p (.sl 1 (l.map iRw) ex)] (l.length≤1000000000) (.p (.sl 1 (l.map iRw) false)):=⟨fun h=>cloneN_w l ex h⟩
end
namespace O3
theorem lopC {C:Ctx} {o:Oper} {σ:St} {e:Eff} {ro:Nat→Bool} (h:LOp C o σ e ro:=by
  first|(apply lop_buildH;(focus rfl);(focus exact inferInstance);(focus exact inferInstance);(focus rfl);(focus rfl);(focus rfl);(focus rfl);(focus rfl);(focus assumption);(focus decide);(focus rfl))|(apply lop_buildA;(focus rfl);(focus exact inferInstance);(focus exact inferInstance);(focus rfl);(focus rfl);(focus rfl);(focus rfl);(focus rfl);(focus decide);(focus rfl))|(apply lop_bsr (row:=haR _);(focus rfl);(focus exact inferInstance);(focus exact inferInstance);(focus exact inferInstance);(focus rfl);(focus rfl);(focus rfl);(focus decide);(focus decide);(focus rfl))|exact O1.lopC|fail):LOp C o σ e ro:=h
theorem stoH3 {C:Ctx} {o:Oper} {σ:St} {e:Eff} {ro:Nat→Bool} (h:LOp C o σ e ro:=by
  first|(apply lop_st_hm;(focus rfl);(focus exact inferInstance);(focus rfl);(focus rfl);(focus rfl);(focus rfl);(focus rfl);(focus rfl);(focus omega);(focus assumption))|(apply lop_st_ha;(focus rfl);(focus exact inferInstance);(focus rfl);(focus rfl);(focus rfl);(focus rfl);(focus rfl);(focus rfl);(focus omega))|exact O1.stoH|fail):LOp C o σ e ro:=h
section steps
variable {C:Ctx} {ops:Array Oper} {o:Oper} {rest:List Oper} {K:St→Prop} {σ:St} {e:Eff} {ro:Nat→Bool} {W:List (Nat × Nat)} {i:Nat}
theorem rnC {d:Nat} (hg:Guard ops σ o true:=by first|exact gd_n rfl rfl|exact gd_t rfl rfl rfl rfl|exact gd_t rfl rfl rfl (by assumption)) (hd:o.dst=some d:=by rfl) (h:LOp C o σ e ro:=by exact lopC) (hk:RunN C ops rest K (e.app (some d) σ)):RunN C ops (o::rest) K σ:=rn_any hg hd h hk
theorem rkC {d:Nat} (hg:Guard ops σ o true:=by first|exact gd_n rfl rfl|exact gd_t rfl rfl rfl rfl|exact gd_t rfl rfl rfl (by assumption)) (hd':o.dst=some d:=by rfl) (hd:dOk C o.dst=true:=by rfl) (h:LOp C o σ e ro:=by exact lopC) (hro:∀ x,ro x=true→okObj ops W i x=true:=by first|exact fun _=>ro_none|exact ro_one rfl|exact ro_k1 rfl|exact ro_one (by kernel_rfl)|exact ro_k1 (by kernel_rfl)|exact ro_kIn (by decide)) (hob:∀ p∈e.obj,(i,p.1)∈W:=by first|exact ob_none|exact ob_one (by decide)|decide) (hk:RunK C ops W (i+1) rest K (e.app (some d) σ)):RunK C ops W i (o::rest) K σ:=rk_wr hg hd' hd h hro hob hk
end steps
section steps
variable {C:Ctx} {ops:Array Oper} {o:Oper} {rest:List Oper} {K:St→Prop} {σ:St} {e:Eff} {ro:Nat→Bool} {W:List (Nat × Nat)} {i:Nat}
theorem rnSH (hg:Guard ops σ o true:=by first|exact gd_n rfl rfl|exact gd_t rfl rfl rfl rfl|exact gd_t rfl rfl rfl (by assumption)) (hd:o.dst=none:=by rfl) (h:LOp C o σ e ro:=by exact stoH3) (hk:RunN C ops rest K (e.app none σ)):RunN C ops (o::rest) K σ:=rn_sto hg hd h hk
theorem rkSH (hg:Guard ops σ o true:=by first|exact gd_n rfl rfl|exact gd_t rfl rfl rfl rfl|exact gd_t rfl rfl rfl (by assumption)) (hd':o.dst=none:=by rfl) (h:LOp C o σ e ro:=by exact stoH3) (hro:∀ x,ro x=true→okObj ops W i x=true:=by first|exact fun _=>ro_none|exact ro_one rfl|exact ro_one (by kernel_rfl)|exact ro_kIn (by decide)) (hob:∀ p∈e.obj,(i,p.1)∈W:=by first|exact ob_none|exact ob_one (by decide)|decide) (hk:RunK C ops W (i+1) rest K (e.app none σ)):RunK C ops W i (o::rest) K σ:=rk_sto hg hd' h hro hob hk
end steps
end O3
open O3
def tellB (b:Bx) (a:Ans) (k:Int):Bx:=if askF k=0 then ⟨b.out,b.ans++[(a,k)],b.lost⟩ else b
theorem obTell_o (n:Nat) (b:Bx) (a:Ans) (k:Int) (hl:b.ans.length < 500000) (hll:a.2.2.length≤1000000000):OCall Tryz.prog 33 [.o (.ptr 1000 n 0),aV a,.p (.i k)] (memL [(1000,(n+1,some (bxM b)))]) (.p (.i (askF k))) (memL [(1000,(n+1,some (bxM (tellB b a k))))]):=by
 refine ocall_of1 Tryz.func33 rfl (fun w0 F S0 M0=>?_)
 unfold tellB
 by_cases q:askF k=0
 ·have d1:decide (askF k≠0)=false:=decide_eq_false fun h=>h q
  rw [if_pos q,q]
  repeat' (first|refine jx17 ?_|refine jy0 ?_ ?_|exact spF|refine spQ fun hq hq'=>?_|refine spN fun hn=>?_|fail)
  refine aws_says (says_unpack2 (p:=1000) (a:=901) (b:=902) rfl rfl rfl (by decide) (by decide) (by decide) (List.length_map _) (List.length_map _)) ?_
  refine aws_draws [(9,902),(12,1000)] mixed (by kernel_rfl) ?_
  repeat' (first|refine jx21 ?_|refine jy1 ?_ ?_|exact spF|refine spQ fun hq hq'=>?_|fail)
  repeat' (first|refine jx18 ?_|refine jy0 ?_ ?_|exact spF|refine spQ fun hq hq'=>?_|refine spN fun hn=>?_|fail)
  refine aws_says (says_pack2 (p:=1000) (a:=901) (b:=902) rfl rfl rfl rfl rfl (List.length_map _).symm (List.length_map _).symm (by decide) (by decide) (by decide)) ?_
  as_aux_lemma=>
   repeat' (first|refine jx17 ?_|refine jy0 ?_ ?_|exact spF|refine spQ fun hq hq'=>?_|refine spN fun hn=>?_|fail)
   exact RetO.mk (ot1 rfl rfl finS_p rfl) ⟨.abs,trivial⟩
 ·have d1:decide (askF k≠0)=true:=decide_eq_true q
  rw [if_neg q]
  as_aux_lemma=>
   repeat' (first|refine jx17 ?_|refine jy0 ?_ ?_|exact spF|refine spQ fun hq hq'=>?_|refine spN fun hn=>?_|fail)
   exact RetO.mk (ot1 rfl rfl finS_p rfl) ⟨.abs,trivial⟩
instance obTell_i {c g n:Nat} {b:Bx} {a:Ans} {k:Int}:OC Tryz.prog 33 [.o (.ptr c g 0),aV a,.p (.i k)] [(c,(n,some (bxM b)))] [] (n=g+1∧b.ans.length < 500000∧a.2.2.length≤1000000000) (.p (.i (askF k))) [(c,(n,some (bxM (tellB b a k))))]:=⟨fun h=>by obtain ⟨rfl,h1,h2⟩:=h;exact (obTell_o g b a k h1 h2).one c⟩
end Go.Proofs.YtpgppgehhclfoaaGreat.Wi
namespace Go.Proofs.YtpgppgehhclfoaaGreat.Wi
open Go Go.RowKit Go.Aw Go.Aw.Cart Go.Aw.Tree Go.Proofs.YtpgppgehhclfoaaGreat.Ca Go.Proofs.YtpgppgehhclfoaaGreat.Rg
set_option linter.unusedVariables false
set_option linter.unusedSimpArgs false
set_option maxRecDepth 8000
set_option maxHeartbeats 4000000
def goneA (l:List Ha) (s:Int):List Ans:=(l.filter fun h=>decide (h.2≤s)).map (·.1)
def waitA (l:List Ha) (s:Int):List Ha:=l.filter fun h=>!decide (h.2≤s)
theorem goneA_take {l:List Ha} {i:Nat} {s:Int} (h:i < l.length):goneA (l.take (i+1)) s=goneA (l.take i) s++if (l.getD i default).2≤s then [(l.getD i default).1] else []:=by
 unfold goneA
 rw [List.take_succ_eq_append_getElem h,List.filter_append,List.map_append,List.getD_eq_getElem?_getD,List.getElem?_eq_getElem h]
 by_cases q:(l[i]).2≤s<;>simp [q]
theorem waitA_take {l:List Ha} {i:Nat} {s:Int} (h:i < l.length):waitA (l.take (i+1)) s=waitA (l.take i) s++if (l.getD i default).2≤s then [] else [l.getD i default]:=by
 unfold waitA
 rw [List.take_succ_eq_append_getElem h,List.filter_append,List.getD_eq_getElem?_getD,List.getElem?_eq_getElem h]
 by_cases q:(l[i]).2≤s<;>simp [q]
namespace O4
theorem lopC {C:Ctx} {o:Oper} {σ:St} {e:Eff} {ro:Nat→Bool} (h:LOp C o σ e ro:=by
  first|(apply gLoad;(focus rfl);apply lop_ldp (L:=4);(focus rfl);(focus exact inferInstance);(focus rfl);(focus rfl);(focus rfl);(focus rfl);(focus rfl);(focus decide);(focus rfl);(focus rfl))|(apply lop_bsr (row:=aR _);(focus rfl);(focus exact inferInstance);(focus exact inferInstance);(focus exact inferInstance);(focus rfl);(focus rfl);(focus rfl);(focus decide);(focus decide);(focus rfl))|exact O3.lopC|fail):LOp C o σ e ro:=h
section steps
variable {C:Ctx} {ops:Array Oper} {o:Oper} {rest:List Oper} {K:St→Prop} {σ:St} {e:Eff} {ro:Nat→Bool} {W:List (Nat × Nat)} {i:Nat}
theorem rnC {d:Nat} (hg:Guard ops σ o true:=by first|exact gd_n rfl rfl|exact gd_t rfl rfl rfl rfl|exact gd_t rfl rfl rfl (by assumption)) (hd:o.dst=some d:=by rfl) (h:LOp C o σ e ro:=by exact lopC) (hk:RunN C ops rest K (e.app (some d) σ)):RunN C ops (o::rest) K σ:=rn_any hg hd h hk
theorem rkC {d:Nat} (hg:Guard ops σ o true:=by first|exact gd_n rfl rfl|exact gd_t rfl rfl rfl rfl|exact gd_t rfl rfl rfl (by assumption)) (hd':o.dst=some d:=by rfl) (hd:dOk C o.dst=true:=by rfl) (h:LOp C o σ e ro:=by exact lopC) (hro:∀ x,ro x=true→okObj ops W i x=true:=by first|exact fun _=>ro_none|exact ro_one rfl|exact ro_k1 rfl|exact ro_one (by kernel_rfl)|exact ro_k1 (by kernel_rfl)|exact ro_kIn (by decide)) (hob:∀ p∈e.obj,(i,p.1)∈W:=by first|exact ob_none|exact ob_one (by decide)|decide) (hk:RunK C ops W (i+1) rest K (e.app (some d) σ)):RunK C ops W i (o::rest) K σ:=rk_wr hg hd' hd h hro hob hk
end steps
end O4
open O4
open O3 (rnSH rkSH stoH3)
theorem splitA_o (l:List Ha) (ex:Bool) (s:Int) (hl:l.length≤1000000):OCall Tryz.prog 99 [.p (.sl 4 (l.map haR) ex),.p (.i s)] (fun _=>(0,none)) (.tup [.one (.p (.sl 3 ((goneA l s).map aR) false)),.one (.osl 1000 (waitA l s).length 4 0 (waitA l s).length)]) (memL [(1000,((waitA l s).length+1,some (.buf 168 4 ((waitA l s).map haR))))]):=by
 refine ocall_ofF 1000 Tryz.func99 rfl (fun w0 F S0 M0=>?_)
 repeat' (first|refine jx17 ?_|refine jy0 ?_ ?_|exact spF|refine spQ fun hq hq'=>?_|refine spN fun hn=>?_|fail)
 refine aws_says (says_nil (t:=6) (o:=901) (es:=3) (ty:=58) rfl rfl (by decide)) ?_
 refine aws_says (says_nil (t:=7) (o:=1000) (es:=4) (ty:=168) rfl rfl (by decide)) ?_
 refine aws_loopS [6,7,9,12,13,14,15,16,17,18,19,20,21,22,23,24,25,26,27,28,29] [9,901,1000] (fun (x:Nat × Nat × Nat × List Ans × List Ha × (Nat × Option MO))=>[(12,.p (.i x.1)),(6,.o (.osl 901 x.2.1 3 0 x.2.2.2.1.length)),(7,.o (.osl 1000 x.2.2.1 4 0 x.2.2.2.2.1.length))]) (fun x=>[(9,x.2.2.2.2.2),(901,(x.2.1+1,some (.buf 58 3 (x.2.2.2.1.map aR)))),(1000,(x.2.2.1+1,some (.buf 168 4 (x.2.2.2.2.1.map haR))))]) (fun x=>x.1≤l.length∧x.2.2.2.1=goneA (l.take x.1) s∧x.2.2.2.2.1=waitA (l.take x.1) s∧x.2.2.1=x.2.2.2.2.1.length) (fun x=>l.length - x.1) (0,0,0,[],[],(0,none)) ⟨Nat.zero_le _,rfl,rfl,rfl⟩ (by exact knA) (by exact knA) ?_
 rintro ⟨i,g,v,G,V,m9⟩ β γ ⟨hi,hG,hV,hv⟩
 dsimp only at hi hG hV hv ⊢
 have hGl:G.length≤1000000:=by
  rw [hG];unfold goneA;rw [List.length_map]
  have:=List.length_filter_le (fun h:Ha=>decide (h.2≤s)) (l.take i)
  rw [List.length_take] at this;omega
 have hVl:V.length≤1000000:=by
  rw [hV];unfold waitA
  have:=List.length_filter_le (fun h:Ha=>!decide (h.2≤s)) (l.take i)
  rw [List.length_take] at this;omega
 by_cases hil:i < l.length
 ·have d1:decide ((i:Int) < (l.length:Int))=true:=decide_eq_true (by omega)
  have ei:(i:Int).toNat=i:=Int.toNat_natCast i
  have hg:=goneA_take (s:=s) hil
  have hw:=waitA_take (s:=s) hil
  rw [← hG] at hg
  rw [← hV] at hw
  rw [show l.getD i default=l.getD (i:Int).toNat default by rw [ei]] at hg hw
  clear hG hV
  by_cases q:(l.getD (i:Int).toNat default).2≤s
  ·have d2:decide ((l.getD (i:Int).toNat default).2≤s)=true:=decide_eq_true q
   rw [if_pos q] at hg hw
   rw [List.append_nil] at hw
   as_aux_lemma=>
    repeat' (first|refine jx17 ?_|refine jy0 ?_ ?_|exact spF|refine spQ fun hq hq'=>?_|refine spN fun hn=>?_|fail)
    exact ⟨(i+1,g+1,v,G++[(l.getD (i:Int).toNat default).1],V,_),_,by dsimp only;omega,⟨by dsimp only;omega,hg.symm,hw.symm,hv⟩,.refl,by exact frA⟩
  ·have d2:decide ((l.getD (i:Int).toNat default).2≤s)=false:=decide_eq_false q
   rw [if_neg q] at hg hw
   rw [List.append_nil] at hg
   as_aux_lemma=>
    repeat' (first|refine jx17 ?_|refine jy0 ?_ ?_|exact spF|refine spQ fun hq hq'=>?_|refine spN fun hn=>?_|fail)
    exact ⟨(i+1,g,v+1,G,V++[l.getD (i:Int).toNat default],_),_,by dsimp only;omega,⟨by dsimp only;omega,hg.symm,hw.symm,by dsimp only;rw [List.length_append,List.length_singleton,hv]⟩,.refl,by exact frA⟩
 ·have d1:decide ((i:Int) < (l.length:Int))=false:=decide_eq_false (by omega)
  obtain rfl:i=l.length:=by omega
  rw [List.take_length] at hG hV
  rw [← hG,← hV]
  subst hv
  clear hG hV
  as_aux_lemma=>
   repeat' (first|refine jx17 ?_|refine jy0 ?_ ?_|exact spF|refine spQ fun hq hq'=>?_|refine spN fun hn=>?_|fail)
   exact RetO.mk (ot2 rfl rfl (.one (finC_map rfl rfl rfl rfl)) rfl (.one (.kosl rfl)) rfl) ⟨.buf,trivial⟩
theorem obTold_o (n:Nat) (b:Bx) (s:Int) (hl:b.ans.length≤1000000):OCall Tryz.prog 34 [.o (.ptr 1000 n 0),.p (.i s)] (memL [(1000,(n+1,some (bxM b)))]) (.p (.sl 3 ((goneA b.ans s).map aR) false)) (memL [(1000,(n+1,some (bxM ⟨b.out,waitA b.ans s,b.lost⟩)))]):=by
 refine ocall_of1 Tryz.func34 rfl (fun w0 F S0 M0=>?_)
 refine aws_says (says_unpack2 (p:=1000) (a:=901) (b:=902) rfl rfl rfl (by decide) (by decide) (by decide) (List.length_map _) (List.length_map _)) ?_
 refine aws_says (says_frz_at (p:=1000) (o:=902) (k:=2) (ds:=[.p (.b true),.osl 901 0 41 0 b.out.length,.p (.sl 4 (b.ans.map haR) false),.p (.i b.lost)]) rfl rfl rfl rfl rfl (List.length_map _).symm (by decide)) ?_
 haveI i1:∀ c m:Nat,OC Tryz.prog 99 [.p (.sl 4 (b.ans.map haR) false),.p (.i s)] [] [(c,m)] True (.tup [.one (.p (.sl 3 ((goneA b.ans s).map aR) false)),.one (.osl c (m+(waitA b.ans s).length) 4 0 (waitA b.ans s).length)]) [(c,(m+((waitA b.ans s).length+1),some (.buf 168 4 ((waitA b.ans s).map haR))))]:=fun c m=>⟨fun _=>(splitA_o b.ans false s hl).fresh1 c m⟩
 repeat' (first|refine jx18 ?_|refine jy0 ?_ ?_|exact spF|refine spQ fun hq hq'=>?_|refine spN fun hn=>?_|fail)
 refine aws_says (says_pack2 (p:=1000) (a:=901) (b:=15) rfl rfl rfl rfl (by omega) (List.length_map _).symm (List.length_map _).symm (by decide) (by decide) (by decide)) ?_
 as_aux_lemma=>
  repeat' (first|refine jx17 ?_|refine jy0 ?_ ?_|exact spF|refine spQ fun hq hq'=>?_|refine spN fun hn=>?_|fail)
  exact RetO.mk (ot1 rfl rfl finS_p rfl) ⟨.abs,trivial⟩
theorem obTold_i {c g n:Nat} {b:Bx} {s:Int}:OC Tryz.prog 34 [.o (.ptr c g 0),.p (.i s)] [(c,(n,some (bxM b)))] [] (n=g+1∧b.ans.length≤1000000) (.p (.sl 3 ((goneA b.ans s).map aR) false)) [(c,(n,some (bxM ⟨b.out,waitA b.ans s,b.lost⟩)))]:=⟨fun h=>by obtain ⟨rfl,h1⟩:=h;exact (obTold_o g b s h1).one c⟩
def zmk {α:Type} (l:List (α × Int)):List (α × Int):=l.map fun h=>(h.1,0)
theorem zmk_step {α:Type} [Inhabited α] {l:List (α × Int)} {i:Nat} (h:i < l.length):(zmk (l.take i)++l.drop i).set i (((zmk (l.take i)++l.drop i).getD i default).1,0)=zmk (l.take (i+1))++l.drop (i+1):=by
 have h1:(zmk (l.take i)).length=i:=by unfold zmk;rw [List.length_map,List.length_take];omega
 rw [List.set_append_right _ _ (by omega),h1,Nat.sub_self,List.getD_eq_getElem?_getD,List.getElem?_append_right (by omega),h1,Nat.sub_self,List.drop_eq_getElem_cons h,List.set_cons_zero,List.take_succ_eq_append_getElem h]
 unfold zmk
 rw [List.map_append,List.append_assoc];rfl
theorem zmk_len {α:Type} (l:List (α × Int)) (i:Nat):(zmk (l.take i)++l.drop i).length=l.length:=by unfold zmk;rw [List.length_append,List.length_map,List.length_take,List.length_drop];omega
theorem zmk_dig {l:List Hm} (hd:∀ h∈l,h.1.dig.length=32) {i:Nat} (h:i < l.length):((zmk (l.take i)++l.drop i).getD i default).1.dig.length=32:=by
 have h1:(zmk (l.take i)).length=i:=by unfold zmk;rw [List.length_map,List.length_take];omega
 rw [List.getD_eq_getElem?_getD,List.getElem?_append_right (by omega),h1,Nat.sub_self,List.drop_eq_getElem_cons h]
 exact hd _ (List.getElem_mem _)
theorem obShift_o (n:Nat) (b:Bx) (hl:b.out.length≤1000000) (hla:b.ans.length≤1000000) (hd:∀ h∈b.out,h.1.dig.length=32):OCall Tryz.prog 31 [.o (.ptr 1000 n 0)] (memL [(1000,(n+1,some (bxM b)))]) (.tup []) (memL [(1000,(n+1,some (bxM ⟨zmk b.out,zmk b.ans,b.lost⟩)))]):=by
 refine ocall_of1 Tryz.func31 rfl (fun w0 F S0 M0=>?_)
 refine aws_says (says_unpack2 (p:=1000) (a:=901) (b:=902) rfl rfl rfl (by decide) (by decide) (by decide) (List.length_map _) (List.length_map _)) ?_
 repeat' (first|refine jx17 ?_|refine jy0 ?_ ?_|exact spF|refine spQ fun hq hq'=>?_|refine spN fun hn=>?_|fail)
 refine aws_loopS [2,11,12,13,14,15,16,17,18,19,20,21] [901] (fun (x:Nat × List Hm)=>[(11,.p (.i x.1))]) (fun x=>[(901,(1,some (.buf 166 41 (x.2.map hmR))))]) (fun x=>x.1≤b.out.length∧x.2=zmk (b.out.take x.1)++b.out.drop x.1) (fun x=>b.out.length - x.1) (0,b.out) ⟨Nat.zero_le _,rfl⟩ (by exact knA) (by exact knA) ?_
 rintro ⟨i,L⟩ β γ ⟨hi,hL⟩
 dsimp only at hi hL ⊢
 have hLl:L.length=b.out.length:=by rw [hL];exact zmk_len _ _
 by_cases hil:i < b.out.length
 ·have d1:decide ((i:Int) < (b.out.length:Int))=true:=decide_eq_true (by omega)
  have ei:(i:Int).toNat=i:=Int.toNat_natCast i
  have hs:=zmk_step hil
  have hx:=zmk_dig hd hil
  rw [← hL] at hs hx
  rw [← ei] at hs hx
  clear hL
  as_aux_lemma=>
   repeat' (first|refine jx17 ?_|refine jy0 ?_ ?_|exact spF|refine spQ fun hq hq'=>?_|refine spN fun hn=>?_|fail)
   exact ⟨(i+1,L.set (i:Int).toNat ((L.getD (i:Int).toNat default).1,0)),_,by dsimp only;omega,⟨by dsimp only;omega,by dsimp only;rw [hs,ei]⟩,.refl,by exact frA⟩
 have d1:decide ((i:Int) < (b.out.length:Int))=false:=decide_eq_false (by omega)
 obtain rfl:i=b.out.length:=by omega
 rw [List.take_length,List.drop_length,List.append_nil] at hL
 rw [← hL]
 rw [← hLl]
 clear hL d1
 have d1:decide ((L.length:Int) < (L.length:Int))=false:=decide_eq_false (by omega)
 repeat' (first|refine jx17 ?_|refine jy0 ?_ ?_|exact spF|refine spQ fun hq hq'=>?_|refine spN fun hn=>?_|fail)
 refine aws_loopS [3,27,28,29,30,31,32,33,34,35,36,37] [902] (fun (x:Nat × List Ha)=>[(27,.p (.i x.1))]) (fun x=>[(902,(1,some (.buf 168 4 (x.2.map haR))))]) (fun x=>x.1≤b.ans.length∧x.2=zmk (b.ans.take x.1)++b.ans.drop x.1) (fun x=>b.ans.length - x.1) (0,b.ans) ⟨Nat.zero_le _,rfl⟩ (by exact knA) (by exact knA) ?_
 rintro ⟨j,V⟩ β γ ⟨hj,hV⟩
 dsimp only at hj hV ⊢
 have hVl:V.length=b.ans.length:=by rw [hV];exact zmk_len _ _
 by_cases hjl:j < b.ans.length
 ·have d2:decide ((j:Int) < (b.ans.length:Int))=true:=decide_eq_true (by omega)
  have ej:(j:Int).toNat=j:=Int.toNat_natCast j
  have hs:=zmk_step hjl
  rw [← hV] at hs
  rw [← ej] at hs
  clear hV
  as_aux_lemma=>
   repeat' (first|refine jx17 ?_|refine jy0 ?_ ?_|exact spF|refine spQ fun hq hq'=>?_|refine spN fun hn=>?_|fail)
   exact ⟨(j+1,V.set (j:Int).toNat ((V.getD (j:Int).toNat default).1,0)),_,by dsimp only;omega,⟨by dsimp only;omega,by dsimp only;rw [hs,ej]⟩,.refl,by exact frA⟩
 have d2:decide ((j:Int) < (b.ans.length:Int))=false:=decide_eq_false (by omega)
 obtain rfl:j=b.ans.length:=by omega
 rw [List.take_length,List.drop_length,List.append_nil] at hV
 rw [← hV]
 refine aws_says (says_pack2 (p:=1000) (a:=901) (b:=902) rfl rfl rfl rfl rfl (List.length_map _).symm (hVl.symm.trans (List.length_map _).symm) (by decide) (by decide) (by decide)) ?_
 as_aux_lemma=>
  repeat' (first|refine jx17 ?_|refine jy0 ?_ ?_|exact spF|refine spQ fun hq hq'=>?_|refine spN fun hn=>?_|fail)
  exact RetO.mk (res0 rfl rfl) ⟨.abs,trivial⟩
theorem obShift_i {c g n:Nat} {b:Bx}:OC Tryz.prog 31 [.o (.ptr c g 0)] [(c,(n,some (bxM b)))] [] (n=g+1∧b.out.length≤1000000∧b.ans.length≤1000000∧∀ h∈b.out,h.1.dig.length=32) (.tup []) [(c,(n,some (bxM ⟨zmk b.out,zmk b.ans,b.lost⟩)))]:=⟨fun h=>by obtain ⟨rfl,h1,h2,h3⟩:=h;exact (obShift_o g b h1 h2 h3).one c⟩
end Go.Proofs.YtpgppgehhclfoaaGreat.Wi
