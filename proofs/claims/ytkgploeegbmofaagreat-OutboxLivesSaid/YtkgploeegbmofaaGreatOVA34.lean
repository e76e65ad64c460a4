/- outbox: what is sent -/
import Derived.Test.YtkgploeegbmofaaGreatOVA31
namespace Go.Proofs.YtkgploeegbmofaaGreat.Wi
open Go Go.RowKit Go.Aw Go.Aw.Cart Go.Aw.Tree Go.Proofs.YtkgploeegbmofaaGreat.Ca Go.Proofs.YtkgploeegbmofaaGreat.Rg
set_option linter.unusedVariables false
set_option linter.unusedSimpArgs false
set_option maxRecDepth 8000
set_option maxHeartbeats 4000000
namespace O9
theorem lopC {C:Ctx} {o:Oper} {σ:St} {e:Eff} {ro:Nat→Bool} (h:LOp C o σ e ro:=by
  first|(apply lop_ap_room;(focus rfl);(focus exact inferInstance);(focus exact inferInstance);(focus rfl);(focus rfl);(focus rfl);(focus rfl);(focus omega);(focus rfl);(focus exact src_sl rfl);(focus exact Nat.succ_pos _);(focus assumption);(focus rfl))|(apply lop_ap_grow;(focus rfl);(focus exact inferInstance);(focus exact inferInstance);(focus exact inferInstance);(focus rfl);(focus rfl);(focus rfl);(focus rfl);(focus omega);(focus rfl);(focus exact src_sl rfl);(focus exact Nat.succ_pos _);(focus (show _ < _+1;omega));(focus rfl);(focus (show _+1≤maxLen;simp only [maxLen];omega));(focus (show (_+1) * _≤140737488355328;omega));(focus rfl))|(apply lop_sl_asl_l;(focus rfl);(focus exact inferInstance);(focus exact inferInstance);(focus rfl);(focus rfl);(focus decide);(focus (show (1:Int)≤((_+1:Nat):Int);omega));(focus (show _+1≤_;omega));(focus (show 1 < _;omega));(focus rfl))|(apply lop_sl_osl_l;(focus rfl);(focus exact inferInstance);(focus exact inferInstance);(focus rfl);(focus rfl);(focus decide);(focus (show (1:Int) < ((_+1:Nat):Int);omega));(focus rfl))|exact lop_len_asl rfl rfl rfl|exact O3.lopC|fail):LOp C o σ e ro:=h
section steps
variable {C:Ctx} {ops:Array Oper} {o:Oper} {rest:List Oper} {K:St→Prop} {σ:St} {e:Eff} {ro:Nat→Bool} {W:List (Nat × Nat)} {i:Nat}
theorem rnC {d:Nat} (hg:Guard ops σ o true:=by first|exact gd_n rfl rfl|exact gd_t rfl rfl rfl rfl|exact gd_t rfl rfl rfl (by assumption)) (hd:o.dst=some d:=by rfl) (h:LOp C o σ e ro:=by exact lopC) (hk:RunN C ops rest K (e.app (some d) σ)):RunN C ops (o::rest) K σ:=rn_any hg hd h hk
theorem rkC {d:Nat} (hg:Guard ops σ o true:=by first|exact gd_n rfl rfl|exact gd_t rfl rfl rfl rfl|exact gd_t rfl rfl rfl (by assumption)) (hd':o.dst=some d:=by rfl) (hd:dOk C o.dst=true:=by rfl) (h:LOp C o σ e ro:=by exact lopC) (hro:∀ x,ro x=true→okObj ops W i x=true:=by first|exact fun _=>ro_none|exact ro_one rfl|exact ro_k1 rfl|exact ro_one (by kernel_rfl)|exact ro_k1 (by kernel_rfl)|exact ro_kIn (by decide)) (hob:∀ p∈e.obj,(i,p.1)∈W:=by first|exact ob_none|exact ob_one (by decide)|decide) (hk:RunK C ops W (i+1) rest K (e.app (some d) σ)):RunK C ops W i (o::rest) K σ:=rk_wr hg hd' hd h hro hob hk
end steps
end O9
open O9
open O3 (rnSH rkSH stoH3)
def sendE (m:Msg) (k:Int):Int:=if rightM m=false then 3 else askF k
def putB (b:Bx) (h:Hm):Bx:=if b.out.length < 500 then ⟨b.out++[h],b.ans,b.lost⟩ else ⟨(b.out++[h]).drop 1,b.ans,b.lost+1⟩
def sendB (b:Bx) (m:Msg) (k:Int):Bx:=if sendE m k=0 then putB b (m,k) else b
theorem obSendF_o (n:Nat) (b:Bx) (m:Msg) (k:Int) (h:MIn m) (hr:rightM m=true) (q:askF k=0) (hl5:b.out.length=500) (hlo:0≤b.lost∧b.lost≤1000000):OCall Tryz.prog 17 [.o (.ptr 1000 n 0),mV m,.p (.i k)] (memL [(1000,(n+1,some (bxM b)))]) (.p (.i 0)) (memL [(1000,(n+1,some (bxM ⟨(b.out++[(m,k)]).drop 1,b.ans,b.lost+1⟩)))]):=by
 refine ocall_of1 Tryz.func17 rfl (fun w0 F S0 M0=>?_)
 have hd:=h.d32
 have h32:(m.dig.map bcD).length=32:=by rw [List.length_map];exact hd
 have z32:(zeroD.map bcD).length=32:=rfl
 have d0:decide (askF 0≠0)=false:=rfl
 have cw:=mwrite_ok m h hr
 have cr:=mread_w (msgB m) (msgB_ok h) (Nat.le_trans (msgB_le h hr) (by decide))
 rw [mread_back h hr] at cr
 generalize msgB m=B at cw cr
 haveI i1:PC Tryz.prog 48 [mV m] True (.tup [.one (.p (.sl 1 (B.map bR) false)),.one (.p (.i 0))]):=⟨fun _=>cw⟩
 haveI i2:PC Tryz.prog 49 [.p (.sl 1 (B.map bR) false)] True (.tup [.agg (mL m),.one (.p (.i 0))]):=⟨fun _=>cr⟩
 have d1:decide (askF k≠0)=false:=decide_eq_false fun h=>h q
 clear cw cr hr
 obtain ⟨L,hL⟩:∃ L,L=b.out.length:=⟨_,rfl⟩
 have hL5:L=500:=by omega
 have d2:decide ((500:Int) < ((L+1:Nat):Int))=true:=decide_eq_true (by omega)
 repeat' (first|refine jx17 ?_|refine jy0 ?_ ?_|exact spF|refine spQ fun hq hq'=>?_|refine spN fun hn=>?_|fail)
 refine aws_unex (p:=1000) (f:=bxP b) rfl fun ⟨P,hP⟩=>?_
 refine aws_says (says_unpack2 (p:=1000) (a:=901) (b:=902) (lo:=P.length) (la:=L) rfl rfl rfl (by decide) (by decide) (by decide) ((bx_len P b.out).trans hL.symm) (List.length_map _)) ?_
 have hW:((P++b.out).map hmR).length=P.length+L:=(bx_le P b.out).trans (by rw [hL])
 generalize hWW:(P++b.out).map hmR=W at hW ⊢
 have hend:((P++(b.out++[(m,k)]).take 1)++(b.out++[(m,k)]).drop 1).map hmR=W++[hmR (m,k)]:=by
  rw [List.append_assoc,List.take_append_drop,← List.append_assoc,List.map_append,hWW];rfl
 have hend1:(P++(b.out++[(m,k)]).take 1).length=P.length+1:=by rw [List.length_append,List.length_take,List.length_append,List.length_singleton];omega
 have hend3:((b.out++[(m,k)]).take 1).length=1:=by rw [List.length_take,List.length_append,List.length_singleton];omega
 have hWd:W.drop P.length=b.out.map hmR:=by rw [← hWW];exact bx_drop P b.out
 have hend4:((b.out++[(m,k)]).take 1++(b.out++[(m,k)]).drop 1).map hmR=W.drop P.length++[hmR (m,k)]:=by
  rw [List.take_append_drop,List.map_append,hWd];rfl
 have hend2:((b.out++[(m,k)]).drop 1).length=500:=by rw [List.length_drop,List.length_append,List.length_singleton];omega
 refine aws_capB 1000 1 (o:=901) rfl rfl rfl rfl (by decide) (by omega) fun c hc1 hc2 hc3=>?_
 by_cases hroom:W.length+1≤c
 ·refine aws_draws [(9,901),(12,1000)] mixed (by kernel_rfl) ?_
  repeat' (first|refine jx21 ?_|refine jy1 ?_ ?_|exact spF|refine spQ fun hq hq'=>?_|fail)
  repeat' (first|refine jx18 ?_|refine jy0 ?_ ?_|exact spF|refine spQ fun hq hq'=>?_|refine spN fun hn=>?_|fail)
  refine aws_says (says_uncapB 1000 1 (o:=901) (lo:=P.length+1) (c:=c) (es:=41) (len:=L) (rows:=W++[hmR (m,k)]) rfl rfl rfl rfl (by decide) (by show P.length * 41+1 * 41=(P.length+1) * 41;omega) (by show c - P.length - 1=c - (P.length+1);omega) (by rw [List.length_append,List.length_singleton];omega)) ?_
  refine aws_says (says_pack2 (p:=1000) (a:=901) (b:=902) (lo:=P.length+1) rfl rfl rfl rfl rfl (by simp;omega) (List.length_map _) (by decide) (by decide) (by decide)) ?_
  refine aws_says (says_toex (p:=1000) (f:=bxP ⟨(b.out++[(m,k)]).drop 1,b.ans,b.lost+1⟩) ⟨P++(b.out++[(m,k)]).take 1,.inr hend2⟩ (by show _=(_,some (MO.abs (bxL _ _ _)));rw [hend,hend1];rfl)) ?_
  as_aux_lemma=>
   repeat' (first|refine jx17 ?_|refine jy0 ?_ ?_|exact spF|refine spQ fun hq hq'=>?_|refine spN fun hn=>?_|fail)
   exact RetO.mk (ot1 rfl rfl finS_p rfl) ⟨.abs,trivial⟩
 ·refine aws_draws [(9,901),(12,1000)] mixed (by kernel_rfl) ?_
  repeat' (first|refine jx21 ?_|refine jy1 ?_ ?_|exact spF|refine spQ fun hq hq'=>?_|fail)
  repeat' (first|refine jx18 ?_|refine jy0 ?_ ?_|exact spF|refine spQ fun hq hq'=>?_|refine spN fun hn=>?_|fail)
  refine aws_says (says_pack2 (p:=1000) (a:=901) (b:=902) (lo:=1) rfl rfl rfl rfl rfl (by simp;omega) (List.length_map _) (by decide) (by decide) (by decide)) ?_
  refine aws_says (says_toex (p:=1000) (f:=bxP ⟨(b.out++[(m,k)]).drop 1,b.ans,b.lost+1⟩) ⟨(b.out++[(m,k)]).take 1,.inr hend2⟩ (by show _=(_,some (MO.abs (bxL _ _ _)));rw [hend4,hend3];rfl)) ?_
  as_aux_lemma=>
   repeat' (first|refine jx17 ?_|refine jy0 ?_ ?_|exact spF|refine spQ fun hq hq'=>?_|refine spN fun hn=>?_|fail)
   exact RetO.mk (ot1 rfl rfl finS_p rfl) ⟨.abs,trivial⟩
theorem obSendL_o (n:Nat) (b:Bx) (m:Msg) (k:Int) (h:MIn m) (hf:b.out.length < 500∨sendE m k≠0) (hlo:0≤b.lost∧b.lost≤1000000):OCall Tryz.prog 17 [.o (.ptr 1000 n 0),mV m,.p (.i k)] (memL [(1000,(n+1,some (bxM b)))]) (.p (.i (sendE m k))) (memL [(1000,(n+1,some (bxM (sendB b m k))))]):=by
 refine ocall_of1 Tryz.func17 rfl (fun w0 F S0 M0=>?_)
 have hd:=h.d32
 have h32:(m.dig.map bcD).length=32:=by rw [List.length_map];exact hd
 have z32:(zeroD.map bcD).length=32:=rfl
 have d0:decide (askF 0≠0)=false:=rfl
 unfold sendB sendE
 cases hr:rightM m with
 | false=>
  have cw:=mwrite_no m h hr
  haveI i1:PC Tryz.prog 48 [mV m] True (.tup [.one (.p (.sl 1 (([]:List Nat).map bR) false)),.one (.p (.i 3))]):=⟨fun _=>cw⟩
  rw [if_pos rfl,if_neg (by decide)]
  as_aux_lemma=>
   repeat' (first|refine jx17 ?_|refine jy0 ?_ ?_|exact spF|refine spQ fun hq hq'=>?_|refine spN fun hn=>?_|fail)
   exact RetO.mk (ot1 rfl rfl finS_p rfl) ⟨.abs,trivial⟩
 | true=>
  have cw:=mwrite_ok m h hr
  have cr:=mread_w (msgB m) (msgB_ok h) (Nat.le_trans (msgB_le h hr) (by decide))
  rw [mread_back h hr] at cr
  generalize msgB m=B at cw cr
  haveI i1:PC Tryz.prog 48 [mV m] True (.tup [.one (.p (.sl 1 (B.map bR) false)),.one (.p (.i 0))]):=⟨fun _=>cw⟩
  haveI i2:PC Tryz.prog 49 [.p (.sl 1 (B.map bR) false)] True (.tup [.agg (mL m),.one (.p (.i 0))]):=⟨fun _=>cr⟩
  rw [if_neg (by decide)]
  by_cases q:askF k=0
  ·have d1:decide (askF k≠0)=false:=decide_eq_false fun h=>h q
   rw [if_pos q,q]
   have hf5:b.out.length < 500:=by
    rcases hf with h|h
    ·exact h
    ·exact absurd (by unfold sendE;rw [hr,if_neg (by decide)];exact q) h
   unfold putB
   rw [if_pos hf5]
   clear hf
   have d2:decide ((500:Int) < ((b.out++[(m,k)]).length:Int))=false:=decide_eq_false (by rw [List.length_append,List.length_singleton];omega)
   repeat' (first|refine jx17 ?_|refine jy0 ?_ ?_|exact spF|refine spQ fun hq hq'=>?_|refine spN fun hn=>?_|fail)
   refine aws_unex (p:=1000) (f:=bxP b) rfl fun ⟨P,hP⟩=>?_
   obtain rfl:P=[]:=by rcases hP with h|h;exact h;omega
   refine aws_says (says_unpack2 (p:=1000) (a:=901) (b:=902) (lo:=0) (ra:=b.out.map hmR) rfl rfl rfl (by decide) (by decide) (by decide) (List.length_map _) (List.length_map _)) ?_
   refine aws_draws [(9,901),(12,1000)] mixed (by kernel_rfl) ?_
   repeat' (first|refine jx21 ?_|refine jy1 ?_ ?_|exact spF|refine spQ fun hq hq'=>?_|fail)
   repeat' (first|refine jx18 ?_|refine jy0 ?_ ?_|exact spF|refine spQ fun hq hq'=>?_|refine spN fun hn=>?_|fail)
   refine aws_says (says_pack2 (p:=1000) (a:=901) (b:=902) (lo:=0) rfl rfl rfl rfl rfl ((List.length_map _).trans (Nat.zero_add _).symm) (List.length_map _) (by decide) (by decide) (by decide)) ?_
   refine aws_says (says_toex (p:=1000) (f:=bxP ⟨b.out++[(m,k)],b.ans,b.lost⟩) ⟨[],.inl rfl⟩ rfl) ?_
   as_aux_lemma=>
    repeat' (first|refine jx17 ?_|refine jy0 ?_ ?_|exact spF|refine spQ fun hq hq'=>?_|refine spN fun hn=>?_|fail)
    exact RetO.mk (ot1 rfl rfl finS_p rfl) ⟨.abs,trivial⟩
  ·have d1:decide (askF k≠0)=true:=decide_eq_true q
   rw [if_neg q]
   as_aux_lemma=>
    repeat' (first|refine jx17 ?_|refine jy0 ?_ ?_|exact spF|refine spQ fun hq hq'=>?_|refine spN fun hn=>?_|fail)
    exact RetO.mk (ot1 rfl rfl finS_p rfl) ⟨.abs,trivial⟩
theorem obSend_o (n:Nat) (b:Bx) (m:Msg) (k:Int) (h:MIn m) (hl:b.out.length≤500) (hlo:0≤b.lost∧b.lost≤1000000):OCall Tryz.prog 17 [.o (.ptr 1000 n 0),mV m,.p (.i k)] (memL [(1000,(n+1,some (bxM b)))]) (.p (.i (sendE m k))) (memL [(1000,(n+1,some (bxM (sendB b m k))))]):=by
 by_cases hf:b.out.length < 500∨sendE m k≠0
 ·exact obSendL_o n b m k h hf hlo
 have he:sendE m k=0:=Classical.byContradiction fun q=>hf (.inr q)
 have hr:rightM m=true:=by
  unfold sendE at he
  cases q:rightM m with
  | true=>rfl
  | false=>rw [q,if_pos rfl] at he;cases he
 have hq:askF k=0:=by unfold sendE at he;rwa [hr,if_neg (by decide)] at he
 have:=obSendF_o n b m k h hr hq (by have:¬ b.out.length < 500:=fun q=>hf (.inl q);omega) hlo
 unfold sendB putB
 rw [if_pos he,if_neg (fun q=>hf (.inl q)),he]
 exact this
instance obSend_i {c g n:Nat} {b:Bx} {m:Msg} {k:Int}:OC Tryz.prog 17 [.o (.ptr c g 0),mV m,.p (.i k)] [(c,(n,some (bxM b)))] [] (n=g+1∧MIn m∧b.out.length≤500∧0≤b.lost∧b.lost≤1000000) (.p (.i (sendE m k))) [(c,(n,some (bxM (sendB b m k))))]:=⟨fun h=>by
 obtain ⟨rfl,h1,h2,h3⟩:=h
 have:=(obSend_o g b m k h1 h2 h3).one c
 simp only [List.map_cons,List.map_nil] at this
 rw [show AV.ren (rn1 c) (mV m)=mV m by rw [show mV m=.a ((mR m).map .p) by rw [← mL_eq]];show AV.a (((mR m).map AC.p).map (AC.ren (rn1 c)))=_;rw [List.map_map];rfl] at this
 exact this⟩
end Go.Proofs.YtkgploeegbmofaaGreat.Wi
