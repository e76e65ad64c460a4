/- inputs: their cells; which are the same -/
import Derived.Test.YtcbhmngagibhmaaGreatPRC01
import Derived.Test.YtcbhmngagibhmaaGreatPRA33
namespace Go.Aw
open Go Go.RowKit
set_option linter.unusedVariables false
set_option linter.unusedSimpArgs false
section
variable {c0 c1 c2 c3 c4 c5 c6 c:AC} {M N:List AC}
theorem il47 (h:M.length=40):(c0::c1::c2::c3::c4::c5::c6::M).length=47:=by simp [h]
theorem ic7 (h:M.length=40):((c0::c1::c2::c3::c4::c5::c6::M).drop (0+7)).take 40=M:=by
 show M.take 40=M
 exact List.take_of_length_le (by omega)
theorem is7 (h:M.length=40):(c0::c1::c2::c3::c4::c5::c6::M).take (0+7)++N++(c0::c1::c2::c3::c4::c5::c6::M).drop (0+7+40)=c0::c1::c2::c3::c4::c5::c6::N:=by
 show c0::c1::c2::c3::c4::c5::c6::(N++M.drop 40)=_
 rw [List.drop_of_length_le (by omega),List.append_nil]
theorem is3 {a b d:AC}:(c0::c1::c2::c3::c4::c5::c6::M).take (0+3)++[a,b,d]++(c0::c1::c2::c3::c4::c5::c6::M).drop (0+3+3)=c0::c1::c2::a::b::d::c6::M:=rfl
theorem is1:(c0::c1::c2::c3::c4::c5::c6::M).set (0+1) c=c0::c::c2::c3::c4::c5::c6::M:=rfl
theorem is2:(c0::c1::c2::c3::c4::c5::c6::M).set (0+2) c=c0::c1::c::c3::c4::c5::c6::M:=rfl
theorem is6:(c0::c1::c2::c3::c4::c5::c6::M).set (0+6) c=c0::c1::c2::c3::c4::c5::c::M:=rfl
end
section
variable {C:Ctx} {o:Oper} {σ:St} {T:TypeId} {x y:Operand} {k:TK} {sz by_ ob g n off:Nat} {ty:TypeId}
theorem lop_ldi3 {cs:List AC} {a b c:AC} (ho:o.op=.load T x) (hT:TI C.P T k sz by_) (hx:σ.look x=.o (.ptr ob g (0+3))) (hm:σ.mem ob=(n,some (.box ty cs))) (hn:n=g+1) (hk:k.agg=true) (hs:sz=3) (hl:cs.length=47) (hc:(cs.drop (0+3)).take 3=[a,b,c]) (hd:dOk C o.dst=true):LOp C o σ ⟨.a [a,b,c],[]⟩ (fun y=>y == ob):=by
 subst hs
 have:=lop_load_box (o:=o) ho hx hm hn hk (by omega) hd
 rwa [hc] at this
theorem lop_ldi7 {cs ds:List AC} (ho:o.op=.load T x) (hT:TI C.P T k sz by_) (hx:σ.look x=.o (.ptr ob g (0+7))) (hm:σ.mem ob=(n,some (.box ty cs))) (hn:n=g+1) (hk:k.agg=true) (hs:sz=40) (hl:cs.length=47) (hc:(cs.drop (0+7)).take 40=ds) (hd:dOk C o.dst=true):LOp C o σ ⟨.a ds,[]⟩ (fun y=>y == ob):=by
 subst hs
 have:=lop_load_box (o:=o) ho hx hm hn hk (by omega) hd
 rwa [hc] at this
theorem lop_ldiA {cs:List AC} (ho:o.op=.load T x) (hT:TI C.P T k sz by_) (hx:σ.look x=.o (.ptr ob g 0)) (hm:σ.mem ob=(n,some (.box ty cs))) (hn:n=g+1) (hk:k.agg=true) (hs:sz=47) (hl:cs.length=47) (hd:dOk C o.dst=true):LOp C o σ ⟨.a cs,[]⟩ (fun y=>y == ob):=
 lop_load_all (o:=o) ho hx hm hn hk (hl.trans hs.symm) hd
theorem lop_sti {cs ds:List AC} {c:AC} (ho:o.op=.store T x y) (hT:TI C.P T k sz by_) (hdst:o.dst=none) (hx:σ.look x=.o (.ptr ob g off)) (hy:σ.look y=.o c) (hm:σ.mem ob=(n,some (.box ty cs))) (hn:n=g+1) (hs:sz=1) (hl:cs.length=47) (ho47:off < 47) (hds:cs.set off c=ds):LOp C o σ ⟨.un,[(ob,(n,some (.box ty ds)))]⟩ (fun z=>z == ob):=
 lop_store_x ho hT hdst hx hy hm hn hs (by omega) hds
theorem lop_sti3 {cs ds es:List AC} (ho:o.op=.store T x y) (hT:TI C.P T k sz by_) (hdst:o.dst=none) (hx:σ.look x=.o (.ptr ob g (0+3))) (hy:σ.look y=.a es) (hm:σ.mem ob=(n,some (.box ty cs))) (hn:n=g+1) (hs:sz=3) (hl:cs.length=47) (he:es.length=3) (hds:cs.take (0+3)++es++cs.drop (0+3+3)=ds):LOp C o σ ⟨.un,[(ob,(n,some (.box ty ds)))]⟩ (fun z=>z == ob):=by
 subst hs
 have:=lop_store (o:=o) (hT:=hT) (s:=.agg es) ho hdst hx hy hm hn (by omega) (by simpa [SV.cells] using he)
 rw [show SV.cells (.agg es)=es from rfl,hds] at this
 exact this
theorem lop_sti7 {cs ds es:List AC} (ho:o.op=.store T x y) (hT:TI C.P T k sz by_) (hdst:o.dst=none) (hx:σ.look x=.o (.ptr ob g (0+7))) (hy:σ.look y=.a es) (hm:σ.mem ob=(n,some (.box ty cs))) (hn:n=g+1) (hs:sz=40) (hl:cs.length=47) (he:es.length=40) (hds:cs.take (0+7)++es++cs.drop (0+7+40)=ds):LOp C o σ ⟨.un,[(ob,(n,some (.box ty ds)))]⟩ (fun z=>z == ob):=by
 subst hs
 have:=lop_store (o:=o) (hT:=hT) (s:=.agg es) ho hdst hx hy hm hn (by omega) (by simpa [SV.cells] using he)
 rw [show SV.cells (.agg es)=es from rfl,hds] at this
 exact this
theorem lop_stiA {cs ds:List AC} (ho:o.op=.store T x y) (hT:TI C.P T k sz by_) (hdst:o.dst=none) (hx:σ.look x=.o (.ptr ob g 0)) (hy:σ.look y=.a ds) (hm:σ.mem ob=(n,some (.box ty cs))) (hn:n=g+1) (hs:sz=47) (hl:cs.length=47) (hl2:ds.length=47):LOp C o σ ⟨.un,[(ob,(n,some (.box ty ds)))]⟩ (fun z=>z == ob):=
 lop_store_all (o:=o) ho hdst hx hy hm hn (hl.trans hs.symm) (hl2.trans hs.symm)
end
theorem stoI {C:Ctx} {o:Oper} {σ:St} {e:Eff} {ro:Nat→Bool} (h:LOp C o σ e ro:=by
  first|(apply lop_sti;(focus rfl);(focus exact inferInstance);(focus rfl);(focus rfl);(focus rfl);(focus rfl);(focus rfl);(focus rfl);(focus exact il47 (by first|assumption|rfl|exact mlen (by first|assumption|(rw [List.length_map];assumption)|rfl)));(focus decide);(focus first|exact is1|exact is2|exact is6))|(apply lop_sti3;(focus rfl);(focus exact inferInstance);(focus rfl);(focus rfl);(focus rfl);(focus rfl);(focus rfl);(focus rfl);(focus exact il47 (by first|assumption|rfl|exact mlen (by first|assumption|(rw [List.length_map];assumption)|rfl)));(focus rfl);(focus exact is3))|(apply lop_sti7;(focus rfl);(focus exact inferInstance);(focus rfl);(focus rfl);(focus rfl);(focus rfl);(focus rfl);(focus rfl);(focus exact il47 (by first|assumption|rfl|exact mlen (by first|assumption|(rw [List.length_map];assumption)|rfl)));(focus first|assumption|rfl|exact mlen (by first|assumption|(rw [List.length_map];assumption)|rfl));(focus exact is7 (by first|assumption|rfl|exact mlen (by first|assumption|(rw [List.length_map];assumption)|rfl))))|(apply lop_stiA;(focus rfl);(focus exact inferInstance);(focus rfl);(focus rfl);(focus rfl);(focus rfl);(focus rfl);(focus rfl);(focus first|rfl|exact il47 (by first|assumption|rfl|exact mlen (by first|assumption|(rw [List.length_map];assumption)|rfl)));(focus exact il47 (by first|assumption|rfl|exact mlen (by first|assumption|(rw [List.length_map];assumption)|rfl))))|exact stoM|fail):LOp C o σ e ro:=h
section steps
variable {C:Ctx} {ops:Array Oper} {o:Oper} {rest:List Oper} {K:St→Prop} {σ:St} {e:Eff} {ro:Nat→Bool} {W:List (Nat × Nat)} {i:Nat}
theorem rnSI (hg:Guard ops σ o true:=by first|exact gd_n rfl rfl|exact gd_t rfl rfl rfl rfl|exact gd_t rfl rfl rfl (by assumption)) (hd:o.dst=none:=by rfl) (h:LOp C o σ e ro:=by exact stoI) (hk:RunN C ops rest K (e.app none σ)):RunN C ops (o::rest) K σ:=rn_sto hg hd h hk
theorem rkSI (hg:Guard ops σ o true:=by first|exact gd_n rfl rfl|exact gd_t rfl rfl rfl rfl|exact gd_t rfl rfl rfl (by assumption)) (hd':o.dst=none:=by rfl) (h:LOp C o σ e ro:=by exact stoI) (hro:∀ x,ro x=true→okObj ops W i x=true:=by first|exact fun _=>ro_none|exact ro_one rfl|exact ro_one (by kernel_rfl)|exact ro_kIn (by decide)) (hob:∀ p∈e.obj,(i,p.1)∈W:=by first|exact ob_none|exact ob_one (by decide)|decide) (hk:RunK C ops W (i+1) rest K (e.app none σ)):RunK C ops W i (o::rest) K σ:=rk_sto hg hd' h hro hob hk
end steps
end Go.Aw
namespace Go.Proofs.YtcbhmngagibhmaaGreat.Wi
open Go Go.RowKit Go.Aw Go.Aw.Cart Go.Aw.Tree Go.Proofs.YtcbhmngagibhmaaGreat.Ca Go.Proofs.YtcbhmngagibhmaaGreat.Rg
set_option linter.unusedVariables false
set_option linter.unusedSimpArgs false
set_option maxRecDepth 8000
set_option maxHeartbeats 4000000
abbrev iC (x:Inp) (M:List AC):List AC:=.p (.i x.kind)::.p (.i x.id)::.p (.v (.string (strOf x.key)))::.p (.i x.op.1)::.p (.i x.op.2.1)::.p (.i x.op.2.2)::.p (.k .u64 (x.draw:Int))::M
abbrev iV (x:Inp):AV:=.a (iC x (mL x.msg))
abbrev zMC:List AC:=.p (.i 0)::.p (.i 0)::.p (.i 0)::.p (.i 0)::.p (.i 0)::(zeroD.map bcD++[.p (.v (.slice none 0 0)),.p (.v (.slice none 0 0)),.p (.v (.slice none 0 0))])
theorem zMC_len:zMC.length=40:=rfl
theorem mL_len {m:Msg} (h:m.dig.length=32):(mL m).length=40:=mlen (by rw [List.length_map];exact h)
theorem lop_buildI1 {C:Ctx} {o:Oper} {σ:St} {T:TypeId} {x0:Operand} {p0:PVal} {fs:List (Nat × Nat)} {z:List Value} (ho:o.op=.build T #[(0,x0)]) (hF:TF C.P T fs) (hz:TZ C.P T z) (g0:σ.look x0=.p p0) (h1:z.all (·.oneCell')=true)
  (hb:bfill (fun i=>fs[i]?) (z.map fun v=>.p (.v v)) [(0,[.p p0])]=some (.p p0::.p (.i 0)::.p (.v (.string ByteArray.empty))::.p (.i 0)::.p (.i 0)::.p (.i 0)::.p (.k .u64 0)::zMC)) (hd:dOk C o.dst=true) :
  LOp C o σ ⟨.a (.p p0::.p (.i 0)::.p (.v (.string ByteArray.empty))::.p (.i 0)::.p (.i 0)::.p (.i 0)::.p (.k .u64 0)::zMC),[]⟩ (fun _=>false):=lop_build1 ho hF hz g0 h1 hb hd
theorem lop_buildI0 {C:Ctx} {o:Oper} {σ:St} {T:TypeId} {fs:List (Nat × Nat)} {z:List Value} (ho:o.op=.build T #[]) (hF:TF C.P T fs) (hz:TZ C.P T z) (h1:z.all (·.oneCell')=true)
  (hb:bfill (fun i=>fs[i]?) (z.map fun v=>.p (.v v)) []=some (.p (.i 0)::.p (.i 0)::.p (.v (.string ByteArray.empty))::.p (.i 0)::.p (.i 0)::.p (.i 0)::.p (.k .u64 0)::zMC)) (hd:dOk C o.dst=true) :
  LOp C o σ ⟨.a (.p (.i 0)::.p (.i 0)::.p (.v (.string ByteArray.empty))::.p (.i 0)::.p (.i 0)::.p (.i 0)::.p (.k .u64 0)::zMC),[]⟩ (fun _=>false):=lop_build0 ho hF hz h1 hb hd
namespace I1
theorem lopC {C:Ctx} {o:Oper} {σ:St} {e:Eff} {ro:Nat→Bool} (h:LOp C o σ e ro:=by
  first
   | (apply gLoad;(focus rfl);first|(apply lop_ldi7;(focus rfl);(focus exact inferInstance);(focus rfl);(focus rfl);(focus rfl);(focus rfl);(focus rfl);(focus exact il47 (by first|assumption|rfl|exact mlen (by first|assumption|(rw [List.length_map];assumption)|rfl)));(focus exact ic7 (by first|assumption|rfl|exact mlen (by first|assumption|(rw [List.length_map];assumption)|rfl)));(focus rfl))|(apply lop_ldi3;(focus rfl);(focus exact inferInstance);(focus rfl);(focus rfl);(focus rfl);(focus rfl);(focus rfl);(focus exact il47 (by first|assumption|rfl|exact mlen (by first|assumption|(rw [List.length_map];assumption)|rfl)));(focus rfl);(focus rfl))|(apply lop_ldiA;(focus rfl);(focus exact inferInstance);(focus rfl);(focus rfl);(focus rfl);(focus rfl);(focus rfl);(focus exact il47 (by first|assumption|rfl|exact mlen (by first|assumption|(rw [List.length_map];assumption)|rfl)));(focus rfl)))
   | (apply lop_buildI1;(focus rfl);(focus exact inferInstance);(focus exact inferInstance);(focus rfl);(focus decide);(focus rfl);(focus rfl))
   | (apply lop_buildI0;(focus rfl);(focus exact inferInstance);(focus exact inferInstance);(focus decide);(focus rfl);(focus rfl))
   | exact V1.lopC
   | fail):LOp C o σ e ro:=h
section steps
variable {C:Ctx} {ops:Array Oper} {o:Oper} {rest:List Oper} {K:St→Prop} {σ:St} {e:Eff} {ro:Nat→Bool} {W:List (Nat × Nat)} {i:Nat}
theorem rnC {d:Nat} (hg:Guard ops σ o true:=by first|exact gd_n rfl rfl|exact gd_t rfl rfl rfl rfl|exact gd_t rfl rfl rfl (by assumption)) (hd:o.dst=some d:=by rfl) (h:LOp C o σ e ro:=by exact lopC) (hk:RunN C ops rest K (e.app (some d) σ)):RunN C ops (o::rest) K σ:=rn_any hg hd h hk
theorem rkC {d:Nat} (hg:Guard ops σ o true:=by first|exact gd_n rfl rfl|exact gd_t rfl rfl rfl rfl|exact gd_t rfl rfl rfl (by assumption)) (hd':o.dst=some d:=by rfl) (hd:dOk C o.dst=true:=by rfl) (h:LOp C o σ e ro:=by exact lopC) (hro:∀ x,ro x=true→okObj ops W i x=true:=by first|exact fun _=>ro_none|exact ro_one rfl|exact ro_k1 rfl|exact ro_one (by kernel_rfl)|exact ro_k1 (by kernel_rfl)|exact ro_kIn (by decide)) (hob:∀ p∈e.obj,(i,p.1)∈W:=by first|exact ob_none|exact ob_one (by decide)|decide) (hk:RunK C ops W (i+1) rest K (e.app (some d) σ)):RunK C ops W i (o::rest) K σ:=rk_wr hg hd' hd h hro hob hk
end steps
end I1
open I1
theorem op_eq (a b:Op3):vEqB [.int .i64 a.1,.int .i64 a.2.1,.int .i64 a.2.2] [.int .i64 b.1,.int .i64 b.2.1,.int .i64 b.2.2]=decide (a=b):=by
 rw [vEq3]
 refine decide_eq_decide.2 ⟨fun h=>Prod.ext h.1 (Prod.ext h.2.1 h.2.2),fun h=>by rw [h];exact ⟨rfl,rfl,rfl⟩⟩
theorem isame_g (x y:Inp) (M N:List AC) [pM:PureL M] [pN:PureL N] (hM:M.length=40) (hN:N.length=40) (S:Bool) (kx:okB x.key) (ky:okB y.key) (c:PCall Tryz.prog 17 [.a M,.a N] (.p (.b S))):PCall Tryz.prog 42 [.a (iC x M),.a (iC y N)] (.p (.b (decide (x.kind=y.kind)&&(decide (x.id=y.id)&&(decide (x.key=y.key)&&(decide (x.op=y.op)&&(decide (x.draw=y.draw)&&S))))))):=by
 refine pcall_of Tryz.func42 rfl (fun w0 F S0 M0=>?_)
 haveI i1:PC Tryz.prog 17 [.a M,.a N] True (.p (.b S)):=⟨fun _=>c⟩
 have e4:=op_eq x.op y.op
 have e5:decide ((x.draw:Int)=(y.draw:Int))=decide (x.draw=y.draw):=decide_eq_decide.2 (by omega)
 cases d1:decide (x.kind=y.kind) with
 | false=>
  rw [Bool.false_and]
  as_aux_lemma=>
   repeat' (first|refine jx5 ?_|refine jy0 ?_ ?_|exact spF|refine spQ fun hq hq'=>?_|refine spN fun hn=>?_|fail)
   exact rt1 rfl rfl finS_p rfl
 | true=>
  rw [Bool.true_and]
  cases d2:decide (x.id=y.id) with
  | false=>
   rw [Bool.false_and]
   as_aux_lemma=>
    repeat' (first|refine jx5 ?_|refine jy0 ?_ ?_|exact spF|refine spQ fun hq hq'=>?_|refine spN fun hn=>?_|fail)
    exact rt1 rfl rfl finS_p rfl
  | true=>
   rw [Bool.true_and]
   cases d3:decide (x.key=y.key) with
   | false=>
    rw [Bool.false_and]
    as_aux_lemma=>
     repeat' (first|refine jx5 ?_|refine jy0 ?_ ?_|exact spF|refine spQ fun hq hq'=>?_|refine spN fun hn=>?_|fail)
     exact rt1 rfl rfl finS_p rfl
   | true=>
    rw [Bool.true_and]
    cases d4:decide (x.op=y.op) with
    | false=>
     rw [Bool.false_and]
     rw [d4] at e4
     as_aux_lemma=>
      repeat' (first|refine jx5 ?_|refine jy0 ?_ ?_|exact spF|refine spQ fun hq hq'=>?_|refine spN fun hn=>?_|fail)
      exact rt1 rfl rfl finS_p rfl
    | true=>
     rw [Bool.true_and]
     rw [d4] at e4
     cases d5:decide (x.draw=y.draw) with
     | false=>
      rw [Bool.false_and]
      rw [d5] at e5
      as_aux_lemma=>
       repeat' (first|refine jx5 ?_|refine jy0 ?_ ?_|exact spF|refine spQ fun hq hq'=>?_|refine spN fun hn=>?_|fail)
       exact rt1 rfl rfl finS_p rfl
     | true=>
      rw [Bool.true_and]
      rw [d5] at e5
      as_aux_lemma=>
       repeat' (first|refine jx5 ?_|refine jy0 ?_ ?_|exact spF|refine spQ fun hq hq'=>?_|refine spN fun hn=>?_|fail)
       exact rt1 rfl rfl finS_p rfl
theorem isame_w (x y:Inp) (hx:MIn x.msg) (hy:MIn y.msg) (kx:okB x.key) (ky:okB y.key):PCall Tryz.prog 42 [iV x,iV y] (.p (.b (sameI x y))):=
 isame_g x y _ _ (mL_len hx.d32) (mL_len hy.d32) _ kx ky (psame_w x.msg y.msg hx hy)
theorem client_g (x:Inp) (M:List AC) [pM:PureL M] (hM:M.length=40) (kx:okB x.key) (kl:x.key.length≤1000000):PCall Tryz.prog 112 [.a (iC x M)] (.p (.b (cliF x.id x.key))):=by
 refine pcall_of Tryz.func112 rfl (fun w0 F S0 M0=>?_)
 have c1:=keyRight_w x.key kx kl
 unfold cliF
 generalize keyR x.key=R at c1 ⊢
 haveI i3:PC Tryz.prog 77 [.p (.v (.string (strOf x.key)))] True (.p (.b R)):=⟨fun _=>c1⟩
 cases d1:decide (1≤x.id) with
 | false=>
  rw [Bool.false_and]
  as_aux_lemma=>
   repeat' (first|refine jx5 ?_|refine jy0 ?_ ?_|exact spF|refine spQ fun hq hq'=>?_|refine spN fun hn=>?_|fail)
   exact rt1 rfl rfl finS_p rfl
 | true=>
  rw [Bool.true_and]
  cases d2:decide (x.id≤1099511627776) with
  | false=>
   rw [Bool.false_and]
   as_aux_lemma=>
    repeat' (first|refine jx5 ?_|refine jy0 ?_ ?_|exact spF|refine spQ fun hq hq'=>?_|refine spN fun hn=>?_|fail)
    exact rt1 rfl rfl finS_p rfl
  | true=>
   rw [Bool.true_and]
   as_aux_lemma=>
    repeat' (first|refine jx5 ?_|refine jy0 ?_ ?_|exact spF|refine spQ fun hq hq'=>?_|refine spN fun hn=>?_|fail)
    exact rt1 rfl rfl finS_p rfl
end Go.Proofs.YtcbhmngagibhmaaGreat.Wi
namespace Go.Proofs.YtcbhmngagibhmaaGreat.Wi
open Go Go.RowKit Go.Aw Go.Aw.Cart Go.Aw.Tree Go.Proofs.YtcbhmngagibhmaaGreat.Ca Go.Proofs.YtcbhmngagibhmaaGreat.Rg
set_option linter.unusedVariables false
set_option linter.unusedSimpArgs false
set_option maxRecDepth 8000
set_option maxHeartbeats 4000000
namespace I3
theorem lopC {C:Ctx} {o:Oper} {σ:St} {e:Eff} {ro:Nat→Bool} (h:LOp C o σ e ro:=by
  first|(apply lop_max_l;(focus rfl);(focus rfl);(focus rfl);(focus omega);(focus rfl))|exact I1.lopC|fail):LOp C o σ e ro:=h
section steps
variable {C:Ctx} {ops:Array Oper} {o:Oper} {rest:List Oper} {K:St→Prop} {σ:St} {e:Eff} {ro:Nat→Bool} {W:List (Nat × Nat)} {i:Nat}
theorem rnC {d:Nat} (hg:Guard ops σ o true:=by first|exact gd_n rfl rfl|exact gd_t rfl rfl rfl rfl|exact gd_t rfl rfl rfl (by assumption)) (hd:o.dst=some d:=by rfl) (h:LOp C o σ e ro:=by exact lopC) (hk:RunN C ops rest K (e.app (some d) σ)):RunN C ops (o::rest) K σ:=rn_any hg hd h hk
theorem rkC {d:Nat} (hg:Guard ops σ o true:=by first|exact gd_n rfl rfl|exact gd_t rfl rfl rfl rfl|exact gd_t rfl rfl rfl (by assumption)) (hd':o.dst=some d:=by rfl) (hd:dOk C o.dst=true:=by rfl) (h:LOp C o σ e ro:=by exact lopC) (hro:∀ x,ro x=true→okObj ops W i x=true:=by first|exact fun _=>ro_none|exact ro_one rfl|exact ro_k1 rfl|exact ro_one (by kernel_rfl)|exact ro_k1 (by kernel_rfl)|exact ro_kIn (by decide)) (hob:∀ p∈e.obj,(i,p.1)∈W:=by first|exact ob_none|exact ob_one (by decide)|decide) (hk:RunK C ops W (i+1) rest K (e.app (some d) σ)):RunK C ops W i (o::rest) K σ:=rk_wr hg hd' hd h hro hob hk
end steps
end I3
namespace I4
theorem lopC {C:Ctx} {o:Oper} {σ:St} {e:Eff} {ro:Nat→Bool} (h:LOp C o σ e ro:=by
  first|(apply lop_cv_sb;(focus rfl);(focus exact inferInstance);(focus exact inferInstance);(focus exact inferInstance);(focus rfl);(focus assumption);(focus first|(simp only [maxLen,List.length_append,List.length_cons,List.length_nil,List.length_take,List.length_drop,List.length_map];omega)|omega);(focus rfl))|(apply lop_cv_bs;(focus rfl);(focus exact inferInstance);(focus exact inferInstance);(focus exact inferInstance);(focus rfl);(focus rfl))|exact I3.lopC|fail):LOp C o σ e ro:=h
section steps
variable {C:Ctx} {ops:Array Oper} {o:Oper} {rest:List Oper} {K:St→Prop} {σ:St} {e:Eff} {ro:Nat→Bool} {W:List (Nat × Nat)} {i:Nat}
theorem rnC {d:Nat} (hg:Guard ops σ o true:=by first|exact gd_n rfl rfl|exact gd_t rfl rfl rfl rfl|exact gd_t rfl rfl rfl (by assumption)) (hd:o.dst=some d:=by rfl) (h:LOp C o σ e ro:=by exact lopC) (hk:RunN C ops rest K (e.app (some d) σ)):RunN C ops (o::rest) K σ:=rn_any hg hd h hk
theorem rkC {d:Nat} (hg:Guard ops σ o true:=by first|exact gd_n rfl rfl|exact gd_t rfl rfl rfl rfl|exact gd_t rfl rfl rfl (by assumption)) (hd':o.dst=some d:=by rfl) (hd:dOk C o.dst=true:=by rfl) (h:LOp C o σ e ro:=by exact lopC) (hro:∀ x,ro x=true→okObj ops W i x=true:=by first|exact fun _=>ro_none|exact ro_one rfl|exact ro_k1 rfl|exact ro_one (by kernel_rfl)|exact ro_k1 (by kernel_rfl)|exact ro_kIn (by decide)) (hob:∀ p∈e.obj,(i,p.1)∈W:=by first|exact ob_none|exact ob_one (by decide)|decide) (hk:RunK C ops W (i+1) rest K (e.app (some d) σ)):RunK C ops W i (o::rest) K σ:=rk_wr hg hd' hd h hro hob hk
end steps
end I4
open I3
theorem eput_o (n:Nat) (bs:List Nat) (o:Op3) (h:mayF o=true) (hl:bs.length≤900000000):OCall Tryz.prog 101 [.o (.ptr 1000 n 0),opV o] (memL [(1000,(n+1,some (.abs (wrA bs))))]) (.tup []) (memL [(1000,(n+1,some (.abs (wrA (bs++opB o)))))]):=by
 refine ocall_of1 Tryz.func101 rfl (fun w0 F S0 M0=>?_)
 obtain ⟨⟨a1,a2⟩,⟨b1,b2⟩,c1,c2⟩:=may_in h
 have w1:IntKind.u64.wrap o.1=o.1:=u64_in (by omega)
 have w2:IntKind.u64.wrap o.2.1=o.2.1:=u64_in (by omega)
 have n1:=numI_len o.1
 have n2:=numI_len o.2.1
 have k1:0≤o.1∧o.1 < 18446744073709551616:=by omega
 have k2:0≤o.2.1∧o.2.1 < 18446744073709551616:=by omega
 have k3 : -9223372036854775808≤o.2.2∧o.2.2≤9223372036854775807:=by omega
 have g1:(bs++numI o.1).length≤1000000000:=by rw [List.length_append];omega
 have g2:(bs++numI o.1++numI o.2.1).length≤1000000000:=by rw [List.length_append,List.length_append];omega
 have g0:bs.length≤1000000000:=by omega
 rw [show bs++opB o=bs++numI o.1++numI o.2.1++intB o.2.2 by unfold opB;simp only [List.append_assoc]]
 as_aux_lemma=>
  repeat' (first|refine jx5 ?_|refine jy0 ?_ ?_|exact spF|refine spQ fun hq hq'=>?_|refine spN fun hn=>?_|fail)
  exact RetO.mk (res0 rfl rfl) ⟨.abs,trivial⟩
theorem etake_o (n:Nat) (r:RS) (hr:rdOk r):OCall Tryz.prog 105 [.o (.ptr 1000 n 0)] (memL [(1000,(n+1,some (rdM r)))]) (opV (opS r).1) (memL [(1000,(n+1,some (rdM (opS r).2)))]):=by
 refine ocall_of1 Tryz.func105 rfl (fun w0 F S0 M0=>?_)
 obtain ⟨a,r1,h1⟩:=pr_ex (smallS 4 r)
 have o1:rdOk r1:=by have:=(par_small 4).rd hr;rwa [h1] at this
 obtain ⟨b,r2,h2⟩:=pr_ex (smallS 60 r1)
 have o2:rdOk r2:=by have:=(par_small 60).rd o1;rwa [h2] at this
 obtain ⟨c,r3,h3⟩:=pr_ex (intS r2)
 have e:opS r=(if (mustS (mayF (a,b,c)) r3).2=0 then (a,b,c) else (0,0,0),mustS (mayF (a,b,c)) r3):=by
  simp only [opS,bindS,mustU,okS,h1,h2,h3]
 rw [e]
 have cM:=may_w (a,b,c)
 generalize mayF (a,b,c)=Y at cM ⊢
 haveI i0:PC Tryz.prog 113 [.a [.p (.i a),.p (.i b),.p (.i c)]] True (.p (.b Y)):=⟨fun _=>cM⟩
 haveI:∀ p g m:Nat,OC Tryz.prog 66 [.o (.ptr p g 0),.p (.i 4)] [(p,(m,some (rdM r)))] [] (m=g+1) (.p (.i a)) [(p,(m,some (rdM r1)))]:=fun p g m=>⟨fun h=>by obtain rfl:=h;have:=(small_o g r 4 (by decide) hr.1 hr.2).one p;rwa [h1] at this⟩
 haveI:∀ p g m:Nat,OC Tryz.prog 66 [.o (.ptr p g 0),.p (.i 60)] [(p,(m,some (rdM r1)))] [] (m=g+1) (.p (.i b)) [(p,(m,some (rdM r2)))]:=fun p g m=>⟨fun h=>by obtain rfl:=h;have:=(small_o g r1 60 (by decide) o1.1 o1.2).one p;rwa [h2] at this⟩
 haveI:∀ p g m:Nat,OC Tryz.prog 163 [.o (.ptr p g 0)] [(p,(m,some (rdM r2)))] [] (m=g+1) (.p (.i c)) [(p,(m,some (rdM r3)))]:=fun p g m=>⟨fun h=>by obtain rfl:=h;have:=(rint_o g r2 o2).one p;rwa [h3] at this⟩
 clear e h1 h2 h3 cM
 by_cases hz:(mustS Y r3).2=0
 ·have d1:decide ((mustS Y r3).2≠0)=false:=decide_eq_false fun q=>q hz
  rw [if_pos hz]
  as_aux_lemma=>
   repeat' (first|refine jx5 ?_|refine jy0 ?_ ?_|exact spF|refine spQ fun hq hq'=>?_|refine spN fun hn=>?_|fail)
   exact RetO.mk (oc1 rfl rfl rfl rfl rfl rfl finL_p rfl) ⟨.box finL_p,trivial⟩
 ·have d1:decide ((mustS Y r3).2≠0)=true:=decide_eq_true hz
  rw [if_neg hz]
  as_aux_lemma=>
   repeat' (first|refine jx5 ?_|refine jy0 ?_ ?_|exact spF|refine spQ fun hq hq'=>?_|refine spN fun hn=>?_|fail)
   exact RetO.mk (oc1 rfl rfl rfl rfl rfl rfl finL_p rfl) ⟨.box finL_p,trivial⟩
end Go.Proofs.YtcbhmngagibhmaaGreat.Wi
namespace Go.Proofs.YtcbhmngagibhmaaGreat.Wi
open Go Go.RowKit Go.Aw Go.Aw.Cart Go.Aw.Tree Go.Proofs.YtcbhmngagibhmaaGreat.Ca Go.Proofs.YtcbhmngagibhmaaGreat.Rg
set_option linter.unusedVariables false
set_option linter.unusedSimpArgs false
set_option maxRecDepth 8000
set_option maxHeartbeats 4000000
theorem finI {σ:St} {K:Nat→Bool} {p0 p1 p2 p3 p4 p5 p6:PVal} {M N:List AC} (h:All2 (FinC σ K) M N):All2 (FinC σ K) (.p p0::.p p1::.p p2::.p p3::.p p4::.p p5::.p p6::M) (.p p0::.p p1::.p p2::.p p3::.p p4::.p p5::.p p6::N):=
 .cons .p (.cons .p (.cons .p (.cons .p (.cons .p (.cons .p (.cons .p h))))))
theorem fin_zM {σ:St} {K:Nat→Bool}:All2 (FinC σ K) zMC (mL zeroM):=finM .nil .nil .nil
theorem fin_mL {σ:St} {K:Nat→Bool} (m:Msg):All2 (FinC σ K) (mL m) (mL m):=finM .p .p .p
theorem pe_m {p0 p1 p2 p3 p4 x y z x' y' z':PVal} {d:List Nat} (h1:PE x x') (h2:PE y y') (h3:PE z z'):All2 PE (p0::p1::p2::p3::p4::(d.map (fun n:Nat=>PVal.k .u8 (n:Int))++[x,y,z])) (p0::p1::p2::p3::p4::(d.map (fun n:Nat=>PVal.k .u8 (n:Int))++[x',y',z'])):=by
 refine .cons .refl (.cons .refl (.cons .refl (.cons .refl (.cons .refl ?_))))
 induction d with
 | nil=>exact .cons h1 (.cons h2 (.cons h3 .nil))
 | cons a d ih=>exact .cons .refl ih
structure ME (M:List AC) (m:Msg):Prop where
 pure:PureL M
 len:M.length=40
 fin:∀ (σ:St) (K:Nat→Bool),All2 (FinC σ K) M (mL m)
 ent:∀ x:Inp,Ent1 (.a (iC x M)) (.a (iC x (mL m)))
theorem me_self {m:Msg} (h:m.dig.length=32):ME (mL m) m where
 pure:=inferInstance
 len:=mL_len h
 fin:=fun _ _=>fin_mL m
 ent:=fun x=>by
  rw [mL_eq]
  show Ent1 (.a ((PVal.i x.kind::.i x.id::.v (.string (strOf x.key))::.i x.op.1::.i x.op.2.1::.i x.op.2.2::.k .u64 (x.draw:Int)::mR m).map .p)) _
  exact Ent1.refl
abbrev zMR:List PVal:=.i 0::.i 0::.i 0::.i 0::.i 0::(zeroD.map (fun n:Nat=>PVal.k .u8 (n:Int))++[.v (.slice none 0 0),.v (.slice none 0 0),.v (.slice none 0 0)])
theorem zMC_eq:zMC=zMR.map .p:=by
 unfold zMC zMR
 simp only [List.map_cons,List.map_append,List.map_map,List.map_nil]
 rfl
theorem me_zero:ME zMC zeroM where
 pure:=inferInstance
 len:=zMC_len
 fin:=fun _ _=>fin_zM
 ent:=fun x=>by
  rw [mL_eq,zMC_eq]
  show Ent1 (.a ((PVal.i x.kind::.i x.id::.v (.string (strOf x.key))::.i x.op.1::.i x.op.2.1::.i x.op.2.2::.k .u64 (x.draw:Int)::zMR).map .p)) (.a ((PVal.i x.kind::.i x.id::.v (.string (strOf x.key))::.i x.op.1::.i x.op.2.1::.i x.op.2.2::.k .u64 (x.draw:Int)::mR zeroM).map .p))
  exact Ent1.cells (.cons .refl (.cons .refl (.cons .refl (.cons .refl (.cons .refl (.cons .refl (.cons .refl (pe_m PE.nil PE.nil PE.nil))))))))
theorem readI_of {b:List Nat} {x:Inp} {q:RS} (h:inS (b,0)=(x,q)):readI b=if endS q≠0∨rightI x=false then (zeroI,3) else (x,0):=by
 unfold readI
 rw [h]
theorem nil_ok:okB ([]:List Nat):=fun c hc=>by cases hc
end Go.Proofs.YtcbhmngagibhmaaGreat.Wi
namespace Go.Proofs.YtcbhmngagibhmaaGreat.Wi
open Go Go.RowKit Go.Aw Go.Aw.Cart Go.Aw.Tree Go.Proofs.YtcbhmngagibhmaaGreat.Ca Go.Proofs.YtcbhmngagibhmaaGreat.Rg
set_option linter.unusedVariables false
set_option linter.unusedSimpArgs false
def idI (x:Inp):Bool:=decide (x.id=0)
def keI (x:Inp):Bool:=decide (x.key=[])
def opI (x:Inp):Bool:=decide (x.op=(0,0,0))
def drI (x:Inp):Bool:=decide (x.draw=0)
def msI (x:Inp):Bool:=sameM x.msg zeroM
def refI (x:Inp):Bool:=
 if x.kind=1 then cliF x.id x.key&&(mayF x.op&&(drI x&&msI x))
 else if x.kind=2 then cliF x.id x.key&&(opI x&&(drI x&&msI x))
 else if x.kind=3∨x.kind=6∨x.kind=7∨x.kind=8 then idI x&&(keI x&&(opI x&&(drI x&&msI x)))
 else if x.kind=4 then idI x&&(keI x&&(opI x&&msI x))
 else if x.kind=5 then idI x&&(keI x&&(opI x&&(drI x&&rightM x.msg)))
 else false
theorem ownI_iff (x:Inp):sameI x (ownI x)=true↔(¬ (x.kind=1∨x.kind=2)→x.id=0∧x.key=[])∧(x.kind≠1→x.op=(0,0,0))∧(x.kind≠4→x.draw=0)∧(x.kind≠5→x.msg=zeroM):=by
 rw [sameI_iff]
 obtain ⟨k,i,s,o,d,m⟩:=x
 unfold ownI
 rw [Inp.mk.injEq]
 dsimp only
 constructor
 ·rintro ⟨-,h2,h3,h4,h5,h6⟩
  refine ⟨fun h=>?_,fun h=>?_,fun h=>?_,fun h=>?_⟩
  ·rw [if_neg h] at h2 h3;exact ⟨h2,h3⟩
  ·rw [if_neg h] at h4;exact h4
  ·rw [if_neg h] at h5;exact h5
  ·rw [if_neg h] at h6;exact h6
 ·rintro ⟨h1,h2,h3,h4⟩
  refine ⟨rfl,?_,?_,?_,?_,?_⟩
  ·split
   ·rfl
   ·rename_i q;exact (h1 q).1
  ·split
   ·rfl
   ·rename_i q;exact (h1 q).2
  ·split
   ·rfl
   ·rename_i q;exact h2 q
  ·split
   ·rfl
   ·rename_i q;exact h3 q
  ·split
   ·rfl
   ·rename_i q;exact h4 q
theorem right_refI (x:Inp):rightI x=refI x:=by
 rw [Bool.eq_iff_iff]
 unfold rightI
 rw [Bool.and_eq_true,ownI_iff]
 unfold okI refI idI keI opI drI msI
 by_cases k1:x.kind=1
 ·rw [if_pos k1,if_pos k1]
  simp only [Bool.and_eq_true,decide_eq_true_iff,sameM_iff]
  constructor
  ·rintro ⟨⟨a,b⟩ , - , -,c,d⟩
   exact ⟨a,b,c (by omega),d (by omega)⟩
  ·rintro ⟨a,b,c,d⟩
   exact ⟨⟨a,b⟩,fun h=>absurd (.inl k1) h,fun h=>absurd k1 h,fun _=>c,fun _=>d⟩
 rw [if_neg k1,if_neg k1]
 by_cases k2:x.kind=2
 ·rw [if_pos k2,if_pos k2]
  simp only [Bool.and_eq_true,decide_eq_true_iff,sameM_iff]
  constructor
  ·rintro ⟨a , -,b,c,d⟩
   exact ⟨a,b k1,c (by omega),d (by omega)⟩
  ·rintro ⟨a,b,c,d⟩
   exact ⟨a,fun h=>absurd (.inr k2) h,fun _=>b,fun _=>c,fun _=>d⟩
 rw [if_neg k2,if_neg k2]
 have k12:¬ (x.kind=1∨x.kind=2):=fun h=>h.elim k1 k2
 by_cases k5:x.kind=5
 ·rw [if_pos k5,if_neg (by omega),if_neg (by omega),if_pos k5]
  simp only [Bool.and_eq_true,decide_eq_true_iff]
  constructor
  ·rintro ⟨a,b,c,d , -⟩
   exact ⟨(b k12).1,(b k12).2,c k1,d (by omega),a⟩
  ·rintro ⟨a,b,c,d,e⟩
   exact ⟨e,fun _=>⟨a,b⟩,fun _=>c,fun _=>d,fun h=>absurd k5 h⟩
 rw [if_neg k5]
 by_cases k3:x.kind=3∨x.kind=6∨x.kind=7∨x.kind=8
 ·rw [if_pos k3]
  simp only [Bool.and_eq_true,decide_eq_true_iff,sameM_iff]
  constructor
  ·rintro ⟨-,b,c,d,e⟩
   exact ⟨(b k12).1,(b k12).2,c k1,d (by omega),e k5⟩
  ·rintro ⟨a,b,c,d,e⟩
   exact ⟨by omega,fun _=>⟨a,b⟩,fun _=>c,fun _=>d,fun _=>e⟩
 rw [if_neg k3]
 by_cases k4:x.kind=4
 ·rw [if_pos k4]
  simp only [Bool.and_eq_true,decide_eq_true_iff,sameM_iff]
  constructor
  ·rintro ⟨-,b,c , -,e⟩
   exact ⟨(b k12).1,(b k12).2,c k1,e k5⟩
  ·rintro ⟨a,b,c,e⟩
   exact ⟨by omega,fun _=>⟨a,b⟩,fun _=>c,fun h=>absurd k4 h,fun _=>e⟩
 rw [if_neg k4,if_neg k5]
 simp only [Bool.and_eq_true,decide_eq_true_iff]
 constructor
 ·rintro ⟨a , -⟩
  omega
 ·intro h;cases h
end Go.Proofs.YtcbhmngagibhmaaGreat.Wi
