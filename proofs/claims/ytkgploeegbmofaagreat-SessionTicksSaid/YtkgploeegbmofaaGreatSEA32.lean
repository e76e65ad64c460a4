/- messages: what they are, equal ones, and what a kind has -/
import Derived.Test.YtkgploeegbmofaaGreatSEA24
namespace Go.Aw
open Go Go.RowKit
section
variable {α:Type} {k f t s p x y z c:α} {D E:List α}
theorem mc37 (h:D.length=32):(k::f::t::s::p::(D++[x,y,z]))[0+37]?=some x:=by
 show (D++[x,y,z])[32]?=some x
 rw [List.getElem?_append_right (by omega),h];rfl
theorem mc38 (h:D.length=32):(k::f::t::s::p::(D++[x,y,z]))[0+38]?=some y:=by
 show (D++[x,y,z])[33]?=some y
 rw [List.getElem?_append_right (by omega),h];rfl
theorem mc39 (h:D.length=32):(k::f::t::s::p::(D++[x,y,z]))[0+39]?=some z:=by
 show (D++[x,y,z])[34]?=some z
 rw [List.getElem?_append_right (by omega),h];rfl
theorem mcD (h:D.length=32):((k::f::t::s::p::(D++[x,y,z])).drop (0+5)).take 32=D:=by
 show (D++[x,y,z]).take 32=D
 rw [List.take_append_of_le_length (by omega),List.take_of_length_le (by omega)]
theorem mlen (h:D.length=32):(k::f::t::s::p::(D++[x,y,z])).length=40:=by simp [h]
theorem ms37 (h:D.length=32):(k::f::t::s::p::(D++[x,y,z])).set (0+37) c=k::f::t::s::p::(D++[c,y,z]):=by
 show k::f::t::s::p::((D++[x,y,z]).set 32 c)=_
 rw [List.set_append_right _ _ (by omega),h];rfl
theorem ms38 (h:D.length=32):(k::f::t::s::p::(D++[x,y,z])).set (0+38) c=k::f::t::s::p::(D++[x,c,z]):=by
 show k::f::t::s::p::((D++[x,y,z]).set 33 c)=_
 rw [List.set_append_right _ _ (by omega),h];rfl
theorem ms39 (h:D.length=32):(k::f::t::s::p::(D++[x,y,z])).set (0+39) c=k::f::t::s::p::(D++[x,y,c]):=by
 show k::f::t::s::p::((D++[x,y,z]).set 34 c)=_
 rw [List.set_append_right _ _ (by omega),h];rfl
theorem ms0:(k::f::t::s::p::D).set (0+0) c=c::f::t::s::p::D:=rfl
theorem ms1:(k::f::t::s::p::D).set (0+1) c=k::c::t::s::p::D:=rfl
theorem ms2:(k::f::t::s::p::D).set (0+2) c=k::f::c::s::p::D:=rfl
theorem ms3:(k::f::t::s::p::D).set (0+3) c=k::f::t::c::p::D:=rfl
theorem ms4:(k::f::t::s::p::D).set (0+4) c=k::f::t::s::c::D:=rfl
theorem msD (h:D.length=32):(k::f::t::s::p::(D++[x,y,z])).take (0+5)++E++(k::f::t::s::p::(D++[x,y,z])).drop (0+5+32)=k::f::t::s::p::(E++[x,y,z]):=by
 show k::f::t::s::p::(E++(D++[x,y,z]).drop 32)=_
 rw [List.drop_append_of_le_length (by omega),List.drop_of_length_le (by omega),List.nil_append]
end
section
variable {C:Ctx} {o:Oper} {σ:St} {T:TypeId} {x y:Operand} {k:TK} {sz by_ ob g n off:Nat} {ty:TypeId}
theorem lop_ldm {cs:List AC} {c:AC} (ho:o.op=.load T x) (hT:TI C.P T k sz by_) (hx:σ.look x=.o (.ptr ob g off)) (hm:σ.mem ob=(n,some (.box ty cs))) (hn:n=g+1) (hk:k.agg=false) (hs:sz=1) (hc:cs[off]?=some c) (hd:dOk C o.dst=true):LOp C o σ ⟨.o c,[]⟩ (fun y=>y == ob):=
 lop_load_one (o:=o) ho hx hm hn hk hs hc hd
theorem lop_ldmD {cs ds:List AC} (ho:o.op=.load T x) (hT:TI C.P T k sz by_) (hx:σ.look x=.o (.ptr ob g (0+5))) (hm:σ.mem ob=(n,some (.box ty cs))) (hn:n=g+1) (hk:k.agg=true) (hs:sz=32) (hl:cs.length=40) (hc:(cs.drop (0+5)).take 32=ds) (hd:dOk C o.dst=true):LOp C o σ ⟨.a ds,[]⟩ (fun y=>y == ob):=by
 subst hs
 have:=lop_load_box (o:=o) ho hx hm hn hk (by omega) hd
 rwa [hc] at this
theorem lop_ldmA {cs:List AC} (ho:o.op=.load T x) (hT:TI C.P T k sz by_) (hx:σ.look x=.o (.ptr ob g 0)) (hm:σ.mem ob=(n,some (.box ty cs))) (hn:n=g+1) (hk:k.agg=true) (hs:sz=40) (hl:cs.length=40) (hd:dOk C o.dst=true):LOp C o σ ⟨.a cs,[]⟩ (fun y=>y == ob):=
 lop_load_all (o:=o) ho hx hm hn hk (hl.trans hs.symm) hd
theorem lop_stm {cs ds:List AC} {c:AC} (ho:o.op=.store T x y) (hT:TI C.P T k sz by_) (hdst:o.dst=none) (hx:σ.look x=.o (.ptr ob g off)) (hy:σ.look y=.o c) (hm:σ.mem ob=(n,some (.box ty cs))) (hn:n=g+1) (hs:sz=1) (hl:cs.length=40) (ho40:off < 40) (hds:cs.set off c=ds):LOp C o σ ⟨.un,[(ob,(n,some (.box ty ds)))]⟩ (fun z=>z == ob):=
 lop_store_x ho hT hdst hx hy hm hn hs (by omega) hds
theorem lop_stmD {cs ds es:List AC} (ho:o.op=.store T x y) (hT:TI C.P T k sz by_) (hdst:o.dst=none) (hx:σ.look x=.o (.ptr ob g (0+5))) (hy:σ.look y=.a es) (hm:σ.mem ob=(n,some (.box ty cs))) (hn:n=g+1) (hs:sz=32) (hl:cs.length=40) (he:es.length=32) (hds:cs.take (0+5)++es++cs.drop (0+5+32)=ds):LOp C o σ ⟨.un,[(ob,(n,some (.box ty ds)))]⟩ (fun z=>z == ob):=by
 subst hs
 have:=lop_store (o:=o) (hT:=hT) (s:=.agg es) ho hdst hx hy hm hn (by omega) (by simpa [SV.cells] using he)
 rw [show SV.cells (.agg es)=es from rfl,hds] at this
 exact this
theorem lop_stmA {cs ds:List AC} (ho:o.op=.store T x y) (hT:TI C.P T k sz by_) (hdst:o.dst=none) (hx:σ.look x=.o (.ptr ob g 0)) (hy:σ.look y=.a ds) (hm:σ.mem ob=(n,some (.box ty cs))) (hn:n=g+1) (hs:sz=40) (hl:cs.length=40) (hl2:ds.length=40):LOp C o σ ⟨.un,[(ob,(n,some (.box ty ds)))]⟩ (fun z=>z == ob):=
 lop_store_all (o:=o) ho hdst hx hy hm hn (hl.trans hs.symm) (hl2.trans hs.symm)
end
theorem stoM {C:Ctx} {o:Oper} {σ:St} {e:Eff} {ro:Nat→Bool} (h:LOp C o σ e ro:=by
  first|(apply lop_stm;(focus rfl);(focus exact inferInstance);(focus rfl);(focus rfl);(focus rfl);(focus rfl);(focus rfl);(focus rfl);(focus exact mlen (by first|assumption|(rw [List.length_map];assumption)|rfl));(focus decide);(focus first|exact ms37 (by first|assumption|(rw [List.length_map];assumption)|rfl)|exact ms38 (by first|assumption|(rw [List.length_map];assumption)|rfl)|exact ms39 (by first|assumption|(rw [List.length_map];assumption)|rfl)|exact ms3|exact ms4|exact ms0|exact ms1|exact ms2))|(apply lop_stmD;(focus rfl);(focus exact inferInstance);(focus rfl);(focus rfl);(focus rfl);(focus rfl);(focus rfl);(focus rfl);(focus exact mlen (by first|assumption|(rw [List.length_map];assumption)|rfl));(focus first|assumption|(rw [List.length_map];assumption)|rfl);(focus exact msD (by first|assumption|(rw [List.length_map];assumption)|rfl)))|(apply lop_stmA;(focus rfl);(focus exact inferInstance);(focus rfl);(focus rfl);(focus rfl);(focus rfl);(focus rfl);(focus rfl);(focus first|exact mlen (by first|assumption|(rw [List.length_map];assumption)|rfl)|rfl);(focus exact mlen (by first|assumption|(rw [List.length_map];assumption)|rfl)))|exact stoB|fail):LOp C o σ e ro:=h
section steps
variable {C:Ctx} {ops:Array Oper} {o:Oper} {rest:List Oper} {K:St→Prop} {σ:St} {e:Eff} {ro:Nat→Bool} {W:List (Nat × Nat)} {i:Nat}
theorem rnSM (hg:Guard ops σ o true:=by first|exact gd_n rfl rfl|exact gd_t rfl rfl rfl rfl|exact gd_t rfl rfl rfl (by assumption)) (hd:o.dst=none:=by rfl) (h:LOp C o σ e ro:=by exact stoM) (hk:RunN C ops rest K (e.app none σ)):RunN C ops (o::rest) K σ:=rn_sto hg hd h hk
theorem rkSM (hg:Guard ops σ o true:=by first|exact gd_n rfl rfl|exact gd_t rfl rfl rfl rfl|exact gd_t rfl rfl rfl (by assumption)) (hd':o.dst=none:=by rfl) (h:LOp C o σ e ro:=by exact stoM) (hro:∀ x,ro x=true→okObj ops W i x=true:=by first|exact fun _=>ro_none|exact ro_one rfl|exact ro_one (by kernel_rfl)|exact ro_kIn (by decide)) (hob:∀ p∈e.obj,(i,p.1)∈W:=by first|exact ob_none|exact ob_one (by decide)|decide) (hk:RunK C ops W (i+1) rest K (e.app none σ)):RunK C ops W i (o::rest) K σ:=rk_sto hg hd' h hro hob hk
end steps
theorem aws_mid {ι:Type} {C:Ctx} {σ:St} {k:List Code} {c c2:Code} {Q:Exit→St→Prop} (P:ι→Prop) (e:ι→List (Nat × AV)) (m:ι→List (Nat × (Nat × Option MO)))
  (h1:AWs C [c] (fun ex s=>match ex with | .normal=>∃ x,P x∧Knows s.env (e x)∧Knows s.mem (m x)|ex=>Q ex s) σ)
  (h2:∀ (x:ι) (ν:Nat→Nat),P x→AWs C (c2::k) Q ⟨ovl (e x) fun _=>.un,ovl (m x) fun o=>(ν o,none)⟩):AWs C (c::c2::k) Q σ:=
 aw_mono (aws_one h1) fun ex s q=>by
  cases ex with
  | normal=>obtain ⟨x,hP,he,hm⟩:=q;exact aws_sm (e x) (m x) he hm (fun ν=>h2 x ν hP)
  | _=>exact q
theorem stpB {X Y:Prop} (e:Y→X:=by
  first|exact rn_nil|exact rk_nil|exact aws_seq|exact aws_region|exact aws_skip|exact aws_label|fail) (h:Y):X:=e h
end Go.Aw
namespace Go.Proofs.YtkgploeegbmofaaGreat.Wi
open Go Go.RowKit Go.Aw Go.Aw.Cart Go.Aw.Tree Go.Proofs.YtkgploeegbmofaaGreat.Ca Go.Proofs.YtkgploeegbmofaaGreat.Rg
set_option linter.unusedVariables false
set_option linter.unusedSimpArgs false
set_option maxRecDepth 8000
set_option maxHeartbeats 4000000
structure Msg where
 kind:Int
 frm:Int
 to:Int
 ses:Int
 part:Int
 dig:List Nat
 pls:List Int
 dgs:List (List Nat)
 kds:List Kd
abbrev mR (m:Msg):List PVal:=.i m.kind::.i m.frm::.i m.to::.i m.ses::.i m.part::(m.dig.map (fun n:Nat=>PVal.k .u8 (n:Int))++[.sl 1 (m.pls.map iRw) false,.sl 32 (m.dgs.map dRw) false,.sl 10 (m.kds.map kR) false])
abbrev mL (m:Msg):List AC:=.p (.i m.kind)::.p (.i m.frm)::.p (.i m.to)::.p (.i m.ses)::.p (.i m.part)::(m.dig.map bcD++[.p (.sl 1 (m.pls.map iRw) false),.p (.sl 32 (m.dgs.map dRw) false),.p (.sl 10 (m.kds.map kR) false)])
abbrev mV (m:Msg):AV:=.a (mL m)
theorem mL_eq (m:Msg):mL m=(mR m).map .p:=by
 unfold mL mR
 simp only [List.map_cons,List.map_append,List.map_map,List.map_nil]
 rfl
structure MIn (m:Msg):Prop where
 d32:m.dig.length=32
 dok:okB m.dig
 pl:m.pls.length≤1000000000
 dl:m.dgs.length≤1000000000
 dg:∀ d∈m.dgs,d.length=32∧okB d
 kl:m.kds.length≤100000
 kd:∀ k∈m.kds,KdI k
 few:∀ k∈m.kds,k.2.2.length≤1000000
def sameM (a b:Msg):Bool:=decide (a.kind=b.kind)&&(decide (a.frm=b.frm)&&(decide (a.to=b.to)&&(decide (a.ses=b.ses)&&(decide (a.part=b.part)&&(decide (a.dig=b.dig)&&(decide (a.pls=b.pls)&&(decide (a.dgs=b.dgs)&&decide (a.kds=b.kds))))))))
theorem sameM_iff {a b:Msg}:sameM a b=true↔a=b:=by
 obtain ⟨a1,a2,a3,a4,a5,a6,a7,a8,a9⟩:=a
 obtain ⟨b1,b2,b3,b4,b5,b6,b7,b8,b9⟩:=b
 unfold sameM
 simp only [Bool.and_eq_true,decide_eq_true_iff,Msg.mk.injEq]
namespace T3
theorem lopC {C:Ctx} {o:Oper} {σ:St} {e:Eff} {ro:Nat→Bool} (h:LOp C o σ e ro:=by
  first
   | (apply gLoad;(focus rfl);first|(apply lop_ldm;(focus rfl);(focus exact inferInstance);(focus rfl);(focus rfl);(focus rfl);(focus rfl);(focus rfl);(focus first|exact mc37 (by first|assumption|(rw [List.length_map];assumption)|rfl)|exact mc38 (by first|assumption|(rw [List.length_map];assumption)|rfl)|exact mc39 (by first|assumption|(rw [List.length_map];assumption)|rfl));(focus rfl))|(apply lop_ldmD;(focus rfl);(focus exact inferInstance);(focus rfl);(focus rfl);(focus rfl);(focus rfl);(focus rfl);(focus exact mlen (by first|assumption|(rw [List.length_map];assumption)|rfl));(focus exact mcD (by first|assumption|(rw [List.length_map];assumption)|rfl));(focus rfl))|(apply lop_ldmA;(focus rfl);(focus exact inferInstance);(focus rfl);(focus rfl);(focus rfl);(focus rfl);(focus rfl);(focus exact mlen (by first|assumption|(rw [List.length_map];assumption)|rfl));(focus rfl))|(apply lop_ld_bx;(focus rfl);(focus exact inferInstance);(focus rfl);(focus rfl);(focus rfl);(focus first|exact mc37 (by first|assumption|(rw [List.length_map];assumption)|rfl)|exact mc38 (by first|assumption|(rw [List.length_map];assumption)|rfl)|exact mc39 (by first|assumption|(rw [List.length_map];assumption)|rfl));(focus rfl))|(apply lop_ld_fbx;(focus rfl);(focus exact inferInstance);(focus rfl);(focus rfl);(focus rfl);(focus rfl);(focus rfl);(focus first|exact mc37 (by first|assumption|(rw [List.length_map];assumption)|rfl)|exact mc38 (by first|assumption|(rw [List.length_map];assumption)|rfl)|exact mc39 (by first|assumption|(rw [List.length_map];assumption)|rfl));(focus rfl)))
   | exact T2.lopC
   | fail):LOp C o σ e ro:=h
section steps
variable {C:Ctx} {ops:Array Oper} {o:Oper} {rest:List Oper} {K:St→Prop} {σ:St} {e:Eff} {ro:Nat→Bool} {W:List (Nat × Nat)} {i:Nat}
theorem rnC {d:Nat} (hg:Guard ops σ o true:=by first|exact gd_n rfl rfl|exact gd_t rfl rfl rfl rfl|exact gd_t rfl rfl rfl (by assumption)) (hd:o.dst=some d:=by rfl) (h:LOp C o σ e ro:=by exact lopC) (hk:RunN C ops rest K (e.app (some d) σ)):RunN C ops (o::rest) K σ:=rn_any hg hd h hk
end steps
end T3
open T3
theorem psame_w (a b:Msg) (ha:MIn a) (hb:MIn b):PCall Tryz.prog 37 [mV a,mV b] (.p (.b (sameM a b))):=by
 refine pcall_of Tryz.func37 rfl (fun w0 F S0 M0=>?_)
 have h1:=ha.d32
 have h2:=hb.d32
 have l1:(a.dig.map bcD).length=32:=by rw [List.length_map];exact h1
 have l2:(b.dig.map bcD).length=32:=by rw [List.length_map];exact h2
 haveI e1:PC Tryz.prog 64 [.p (.sl 1 (a.pls.map iRw) false),.p (.sl 1 (b.pls.map iRw) false)] True (.p (.b (decide (a.pls=b.pls)))):=⟨fun _=>equalN_w _ _ _ _ ha.pl⟩
 haveI e2:PC Tryz.prog 82 [.p (.sl 32 (a.dgs.map dRw) false),.p (.sl 32 (b.dgs.map dRw) false)] True (.p (.b (decide (a.dgs=b.dgs)))):=⟨fun _=>equalD_w _ _ _ _ ha.dl (fun d hd=>(ha.dg d hd).1) (fun d hd=>(hb.dg d hd).1)⟩
 have c3:=equalK_w a.kds b.kds false false (by have:=ha.kl;omega) ha.kd hb.kd (fun k hk=>by have:=ha.few k hk;omega)
 have c4:PCall Tryz.prog 83 [.p (.sl 10 (a.kds.map kR) false),.p (.sl 10 (b.kds.map kR) false),.p (.v (.func (.func 80) #[] #[]))] (.p (.b (decide (a.kds=b.kds)))):=c3.ent (.cons Ent1.refl (.cons Ent1.refl (.cons ent_fnc .nil)))
 haveI e3:PC Tryz.prog 83 [.p (.sl 10 (a.kds.map kR) false),.p (.sl 10 (b.kds.map kR) false),.p (.v (.func (.func 80) #[] #[]))] True (.p (.b (decide (a.kds=b.kds)))):=⟨fun _=>c4⟩
 clear c3 c4 ha hb
 unfold sameM
 by_cases q1:a.kind=b.kind
 ·have d1:decide (a.kind=b.kind)=true:=decide_eq_true q1
  rw [d1,Bool.true_and]
  by_cases q2:a.frm=b.frm
  ·have d2:decide (a.frm=b.frm)=true:=decide_eq_true q2
   rw [d2,Bool.true_and]
   by_cases q3:a.to=b.to
   ·have d3:decide (a.to=b.to)=true:=decide_eq_true q3
    rw [d3,Bool.true_and]
    by_cases q4:a.ses=b.ses
    ·have d4:decide (a.ses=b.ses)=true:=decide_eq_true q4
     rw [d4,Bool.true_and]
     by_cases q5:a.part=b.part
     ·have d5:decide (a.part=b.part)=true:=decide_eq_true q5
      rw [d5,Bool.true_and]
      by_cases q6:a.dig=b.dig
      ·have d6:decide (a.dig=b.dig)=true:=decide_eq_true q6
       rw [d6,Bool.true_and]
       cases q7:decide (a.pls=b.pls) with
       | true=>
        rw [Bool.true_and]
        cases q8:decide (a.dgs=b.dgs) with
        | true=>
         rw [Bool.true_and]
         as_aux_lemma=>
          repeat' (first|refine jx5 ?_|refine jy0 ?_ ?_|exact spF|refine spQ fun hq hq'=>?_|refine spN fun hn=>?_|fail)
          exact rt1 rfl rfl finS_p rfl
        | false=>
         rw [Bool.false_and]
         as_aux_lemma=>
          repeat' (first|refine jx5 ?_|refine jy0 ?_ ?_|exact spF|refine spQ fun hq hq'=>?_|refine spN fun hn=>?_|fail)
          exact rt1 rfl rfl finS_p rfl
       | false=>
        rw [Bool.false_and]
        as_aux_lemma=>
         repeat' (first|refine jx5 ?_|refine jy0 ?_ ?_|exact spF|refine spQ fun hq hq'=>?_|refine spN fun hn=>?_|fail)
         exact rt1 rfl rfl finS_p rfl
      ·have d6:decide (a.dig=b.dig)=false:=decide_eq_false q6
       rw [d6,Bool.false_and]
       as_aux_lemma=>
        repeat' (first|refine jx5 ?_|refine jy0 ?_ ?_|exact spF|refine spQ fun hq hq'=>?_|refine spN fun hn=>?_|fail)
        exact rt1 rfl rfl finS_p rfl
     ·have d5:decide (a.part=b.part)=false:=decide_eq_false q5
      rw [d5,Bool.false_and]
      as_aux_lemma=>
       repeat' (first|refine jx5 ?_|refine jy0 ?_ ?_|exact spF|refine spQ fun hq hq'=>?_|refine spN fun hn=>?_|fail)
       exact rt1 rfl rfl finS_p rfl
    ·have d4:decide (a.ses=b.ses)=false:=decide_eq_false q4
     rw [d4,Bool.false_and]
     as_aux_lemma=>
      repeat' (first|refine jx5 ?_|refine jy0 ?_ ?_|exact spF|refine spQ fun hq hq'=>?_|refine spN fun hn=>?_|fail)
      exact rt1 rfl rfl finS_p rfl
   ·have d3:decide (a.to=b.to)=false:=decide_eq_false q3
    rw [d3,Bool.false_and]
    as_aux_lemma=>
     repeat' (first|refine jx5 ?_|refine jy0 ?_ ?_|exact spF|refine spQ fun hq hq'=>?_|refine spN fun hn=>?_|fail)
     exact rt1 rfl rfl finS_p rfl
  ·have d2:decide (a.frm=b.frm)=false:=decide_eq_false q2
   rw [d2,Bool.false_and]
   as_aux_lemma=>
    repeat' (first|refine jx5 ?_|refine jy0 ?_ ?_|exact spF|refine spQ fun hq hq'=>?_|refine spN fun hn=>?_|fail)
    exact rt1 rfl rfl finS_p rfl
 ·have d1:decide (a.kind=b.kind)=false:=decide_eq_false q1
  rw [d1,Bool.false_and]
  as_aux_lemma=>
   repeat' (first|refine jx5 ?_|refine jy0 ?_ ?_|exact spF|refine spQ fun hq hq'=>?_|refine spN fun hn=>?_|fail)
   exact rt1 rfl rfl finS_p rfl
end Go.Proofs.YtkgploeegbmofaaGreat.Wi
