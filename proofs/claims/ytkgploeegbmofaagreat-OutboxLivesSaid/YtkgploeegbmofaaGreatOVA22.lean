/- bytes as a law's argument; PackLists over what was read -/
import Derived.Test.YtkgploeegbmofaaGreatOVA12
import Derived.Test.YtkgploeegbmofaaGreatOVA21
import Derived.Test.YtkgploeegbmofaaGreatOVA32
import Derived.Test.YtkgploeegbmofaaGreatOVA42
import Derived.Test.YtkgploeegbmofaaGreatOVA43
namespace Go.Proofs.YtkgploeegbmofaaGreat.Wi
open Go Go.RowKit Go.Aw Go.Aw.Cart Go.Proofs.YtkgploeegbmofaaGreat.Ca
set_option linter.unusedVariables false
set_option linter.unusedSimpArgs false
theorem u8_of {n:Int} (h:IntKind.u8.min≤n∧n≤IntKind.u8.max):((n.toNat:Nat):Int)=n∧n.toNat < 256:=by
 simp only [IntKind.min,IntKind.max,IntKind.signed,IntKind.bits] at h
 simp at h;omega
theorem u8s_map {β:Type} {f:Int→β} {l:List Int} (h:∀ n∈l,IntKind.u8.min≤n∧n≤IntKind.u8.max):(l.map Int.toNat).map (fun n:Nat=>f (n:Int))=l.map f:=by
 rw [List.map_map]
 exact List.map_congr_left fun n hn=>by simp only [Function.comp_apply,(u8_of (h n hn)).1]
theorem u8s_ok {l:List Int} (h:∀ n∈l,IntKind.u8.min≤n∧n≤IntKind.u8.max):okB (l.map Int.toNat):=fun n hn=>by
 obtain ⟨m,hm,rfl⟩:=List.mem_map.1 hn
 exact (u8_of (h m hm)).2
end Go.Proofs.YtkgploeegbmofaaGreat.Wi
namespace Go.Proofs.YtkgploeegbmofaaGreat.Wi
open Go Go.RowKit Go.Aw Go.Aw.Cart Go.Aw.Tree Go.Proofs.YtkgploeegbmofaaGreat.Ca Go.Proofs.YtkgploeegbmofaaGreat.Rg
set_option linter.unusedVariables false
set_option linter.unusedSimpArgs false
set_option maxRecDepth 8000
set_option maxHeartbeats 4000000
attribute [local irreducible] readM msgB rightM sameM greatM zeroM
open V1
end Go.Proofs.YtkgploeegbmofaaGreat.Wi
namespace Go.Proofs.YtkgploeegbmofaaGreat.Wi
open Go Go.RowKit Go.Aw Go.Aw.Cart Go.Aw.Tree Go.Proofs.YtkgploeegbmofaaGreat.Ca Go.Proofs.YtkgploeegbmofaaGreat.Rg
set_option linter.unusedVariables false
set_option maxRecDepth 8000
theorem rd_digP:Reads Tryz.prog 34 (List Nat) dRw (fun d=>d.length=32∧okB d):=
 (reads_array (α:=Int) (row:=fun n=>[PVal.k .u8 n]) (ok:=fun n=>IntKind.u8.min≤n∧n≤IntKind.u8.max) (inferInstance:TI Tryz.prog 34 _ _ _) (inferInstance:TI Tryz.prog 5 _ _ _) rfl (reads_int inferInstance)).imp' (fun l=>l.map Int.toNat)
  (fun l h=>by
   have e:dRw (l.map Int.toNat)=l.map fun n=>PVal.k .u8 n:=u8s_map (f:=fun n=>PVal.k .u8 n) h.2
   rw [e]
   clear h e
   induction l with
   | nil=>rfl
   | cons b l ih=>simp [ih]) (fun l h=>⟨by simpa using h.1,u8s_ok h.2⟩)
theorem rd_digsP:Reads Tryz.prog 35 (List (List Nat)) (fun l=>[.sl 32 (l.map dRw) false]) (fun l=>l.length≤maxLen∧∀ d∈l,d.length=32∧okB d):=
 reads_slice inferInstance inferInstance (by decide) rd_digP
theorem rd_intsP:Reads Tryz.prog 29 (List Int) (fun l=>[.sl 1 (l.map iRw) false]) (fun l=>l.length≤maxLen∧∀ n∈l,IntKind.i64.min≤n∧n≤IntKind.i64.max):=
 reads_slice inferInstance inferInstance (by decide) (reads_int inferInstance)
theorem lenM {α:Type} {l:List α} (h:l.length≤maxLen):l.length≤9223372036854775807:=by simpa [maxLen] using h
def mRow (m:Msg):List PVal:=[PVal.i m.kind,PVal.i m.frm,PVal.i m.to,PVal.i m.ses,PVal.i m.part]++(dRw m.dig++[.sl 1 (m.pls.map iRw) false,.sl 32 (m.dgs.map dRw) false,.sl 10 (m.kds.map kR) false])
def toM (x:Int × Int × Int × Int × Int × List Nat × List Int × List (List Nat) × List Kd × Unit):Msg:=⟨x.1,x.2.1,x.2.2.1,x.2.2.2.1,x.2.2.2.2.1,x.2.2.2.2.2.1,x.2.2.2.2.2.2.1,x.2.2.2.2.2.2.2.1,x.2.2.2.2.2.2.2.2.1⟩
theorem rd_msg:Reads Tryz.prog 38 Msg mRow MGo:=
 (reads_struct (inferInstance:TI Tryz.prog 38 _ _ _)
  (readsFs_cons (inferInstance:TI Tryz.prog 3 _ _ _) Ca.rd_int (readsFs_cons (inferInstance:TI Tryz.prog 3 _ _ _) Ca.rd_int (readsFs_cons (inferInstance:TI Tryz.prog 3 _ _ _) Ca.rd_int (readsFs_cons (inferInstance:TI Tryz.prog 3 _ _ _) Ca.rd_int (readsFs_cons (inferInstance:TI Tryz.prog 3 _ _ _) Ca.rd_int
  (readsFs_cons (inferInstance:TI Tryz.prog 34 _ _ _) rd_digP (readsFs_cons (inferInstance:TI Tryz.prog 29 _ _ _) rd_intsP (readsFs_cons (inferInstance:TI Tryz.prog 35 _ _ _) rd_digsP (readsFs_cons (inferInstance:TI Tryz.prog 36 _ _ _) rd_kds (readsFs_nil rfl))))))))))).imp'
  toM (fun x _=>rfl) (fun x h=>by
   obtain ⟨_,_,_,_,_,h6,h7,h8,h9,_⟩:=h
   exact ⟨h6.1,h6.2,lenM h7.1,lenM h8.1,h8.2,lenM h9.1,h9.2⟩)
end Go.Proofs.YtkgploeegbmofaaGreat.Wi
namespace Go.Proofs.YtkgploeegbmofaaGreat.Wi
open Go Go.RowKit Go.Aw Go.Aw.Cart Go.Aw.Tree Go.Proofs.YtkgploeegbmofaaGreat.Ca Go.Proofs.YtkgploeegbmofaaGreat.Rg
set_option linter.unusedVariables false
set_option linter.unusedSimpArgs false
set_option maxRecDepth 8000
set_option maxHeartbeats 4000000
theorem obR_map (o:Obp):(obR o).map AC.p=.p (.i o.kind)::.p (.i o.mark)::(mL o.msg++[.p (.i o.ans.1),.p (.i o.ans.2.1),.p (.sl 1 (o.ans.2.2.map iRw) false)]):=by
 unfold obR
 rw [List.map_cons,List.map_cons,List.map_append,← mL_eq];rfl
theorem obC_len {o:Obp} (h:o.msg.dig.length=32):((obR o).map AC.p).length=45:=by rw [List.length_map];exact obR_len h
theorem obC_0 (o:Obp):((obR o).map AC.p)[0]?=some (.p (.i o.kind)):=rfl
theorem obC_1 (o:Obp):((obR o).map AC.p)[0+1]?=some (.p (.i o.mark)):=rfl
theorem obC_m {o:Obp} (h:o.msg.dig.length=32):(((obR o).map AC.p).drop (0+2)).take 40=mL o.msg:=by
 rw [obR_map]
 show (mL o.msg++_).take 40=_
 exact List.take_left' (mL_len' h)
theorem obC_a {o:Obp} (h:o.msg.dig.length=32):(((obR o).map AC.p).drop (0+42)).take 3=[.p (.i o.ans.1),.p (.i o.ans.2.1),.p (.sl 1 (o.ans.2.2.map iRw) false)]:=by
 rw [obR_map]
 show ((mL o.msg++_).drop 40).take 3=_
 rw [List.drop_left' (mL_len' h)];rfl
namespace OD
theorem lopC {C:Ctx} {o:Oper} {σ:St} {e:Eff} {ro:Nat→Bool} (h:LOp C o σ e ro:=by
  first
   | (apply gLoad;(focus rfl);first|(apply lop_ldm;(focus rfl);(focus exact inferInstance);(focus rfl);(focus rfl);(focus rfl);(focus rfl);(focus rfl);(focus exact obC_0 _);(focus rfl))|(apply lop_ldm;(focus rfl);(focus exact inferInstance);(focus rfl);(focus rfl);(focus rfl);(focus rfl);(focus rfl);(focus exact obC_1 _);(focus rfl))|(apply lop_ldp (L:=45);(focus rfl);(focus exact inferInstance);(focus rfl);(focus rfl);(focus rfl);(focus rfl);(focus exact obC_len (by assumption));(focus decide);(focus exact obC_m (by assumption));(focus rfl))|(apply lop_ldp (L:=45);(focus rfl);(focus exact inferInstance);(focus rfl);(focus rfl);(focus rfl);(focus rfl);(focus exact obC_len (by assumption));(focus decide);(focus exact obC_a (by assumption));(focus rfl)))
   | exact OT.lopC
   | fail):LOp C o σ e ro:=h
section steps
variable {C:Ctx} {ops:Array Oper} {o:Oper} {rest:List Oper} {K:St→Prop} {σ:St} {e:Eff} {ro:Nat→Bool} {W:List (Nat × Nat)} {i:Nat}
theorem rnC {d:Nat} (hg:Guard ops σ o true:=by first|exact gd_n rfl rfl|exact gd_t rfl rfl rfl rfl|exact gd_t rfl rfl rfl (by assumption)) (hd:o.dst=some d:=by rfl) (h:LOp C o σ e ro:=by exact lopC) (hk:RunN C ops rest K (e.app (some d) σ)):RunN C ops (o::rest) K σ:=rn_any hg hd h hk
theorem rkC {d:Nat} (hg:Guard ops σ o true:=by first|exact gd_n rfl rfl|exact gd_t rfl rfl rfl rfl|exact gd_t rfl rfl rfl (by assumption)) (hd':o.dst=some d:=by rfl) (hd:dOk C o.dst=true:=by rfl) (h:LOp C o σ e ro:=by exact lopC) (hro:∀ x,ro x=true→okObj ops W i x=true:=by first|exact fun _=>ro_none|exact ro_one rfl|exact ro_k1 rfl|exact ro_one (by kernel_rfl)|exact ro_k1 (by kernel_rfl)|exact ro_kIn (by decide)) (hob:∀ p∈e.obj,(i,p.1)∈W:=by first|exact ob_none|exact ob_one (by decide)|decide) (hk:RunK C ops W (i+1) rest K (e.app (some d) σ)):RunK C ops W i (o::rest) K σ:=rk_wr hg hd' hd h hro hob hk
end steps
end OD
open OD
open O3 (rnSH rkSH stoH3)
abbrev opA (o:Obp):AV:=.a ((obR o).map .p)
section
variable {b:Bx} {o:Obp} {n nd:Nat} {N c:Nat}
theorem do1_o (hI:BInv N c b) (hm:MIn o.msg) (hN:N≤100000) (hl:o.ans.2.2.length≤100) (hk:o.kind=1):OCall Tryz.prog 12 [.o (.ptr 1000 n 0),.o (.ptr 1001 nd 0),opA o] (memL [(1000,(n+1,some (bxM b))),(1001,(nd+1,some (rxM b)))]) (.p (.b true)) (memL [(1000,(n+1,some (bxM (tellB b o.ans o.mark)))),(1001,(nd+1,some (rxM (tellB b o.ans o.mark))))]):=by
 refine ocall_of22 Tryz.func12 rfl (fun w0 F S0 M0=>?_)
 have hd:=hm.d32
 have q0:decide (o.kind=0)=false:=decide_eq_false (by omega)
 have q1:decide (o.kind=1)=true:=decide_eq_true hk
 have l1:b.ans.length < 500000:=by have:=hI.ans;omega
 have cf:=of29_w o.ans
 haveI i1:PC Tryz.prog 41 [aV o.ans] True (aV o.ans):=⟨fun _=>cf⟩
 haveI i2:∀ q g m:Nat,OC Tryz.prog 18 [.o (.ptr q g 0),aV o.ans,.p (.i o.mark)] [(q,(m,some (bxM b)))] [] (m=g+1) (.p (.i (askF o.mark))) [(q,(m,some (bxM (tellB b o.ans o.mark))))]:=fun q g m=>⟨fun h=>obTell_i.call ⟨h,l1,by omega⟩⟩
 haveI i3:∀ q g m:Nat,OC Tryz.prog 40 [.o (.ptr q g 0),aV o.ans,.p (.i o.mark)] [(q,(m,some (rxM b)))] [] (m=g+1) (.p (.i (askF o.mark))) [(q,(m,some (rxM (tellB b o.ans o.mark))))]:=fun q g m=>⟨fun h=>rxTell_i.call ⟨h,l1⟩⟩
 have d9:decide (askF o.mark=askF o.mark)=true:=decide_eq_true rfl
 generalize tellB b o.ans o.mark=b' at *
 generalize askF o.mark=e at *
 clear hI hm cf l1 hN hk hl
 repeat' (first|refine jx17 ?_|refine jy0 ?_ ?_|exact spF|refine spQ fun hq hq'=>?_|refine spN fun hn=>?_|fail)
 refine aws_draws [(5,1000),(12,1001)] mixed (by kernel_rfl) ?_
 repeat' (first|refine jx21 ?_|refine jy1 ?_ ?_|exact spF|refine spQ fun hq hq'=>?_|fail)
 as_aux_lemma=>
  repeat' (first|refine jx17 ?_|refine jy0 ?_ ?_|exact spF|refine spQ fun hq hq'=>?_|refine spN fun hn=>?_|fail)
  exact RetO.mk (ot1 rfl rfl finS_p (congrArg (fun z:Bool=>AV.p (.b z)) d9.symm)) ⟨.abs,.abs,trivial⟩
theorem do2_o (hI:BInv N c b) (hm:MIn o.msg) (hk:o.kind=2):OCall Tryz.prog 12 [.o (.ptr 1000 n 0),.o (.ptr 1001 nd 0),opA o] (memL [(1000,(n+1,some (bxM b))),(1001,(nd+1,some (rxM b)))]) (.p (.b true)) (memL [(1000,(n+1,some (bxM ⟨waitF b.out o.mark,b.ans,b.lost⟩))),(1001,(nd+1,some (rxM ⟨waitF b.out o.mark,b.ans,b.lost⟩)))]):=by
 refine ocall_of22 Tryz.func12 rfl (fun w0 F S0 M0=>?_)
 have hd:=hm.d32
 have q0:decide (o.kind=0)=false:=decide_eq_false (by omega)
 have q1:decide (o.kind=1)=false:=decide_eq_false (by omega)
 have q2:decide (o.kind=2)=true:=decide_eq_true hk
 have l1:b.out.length≤1000000:=by have:=hI.out;omega
 have l2:∀ h∈b.out,h.1.dig.length=32:=fun h hh=>(hI.msg h hh).d32
 have cm:=messages_w (goneF b.out o.mark) (fun x hx=>by
  obtain ⟨y,hy,rfl⟩:=List.mem_map.1 hx
  exact hI.msg y ((List.mem_filter.1 hy).1)) (by
  unfold goneF
  rw [List.length_map]
  exact Nat.le_trans (List.length_filter_le _ _) l1)
 haveI i2:∀ q g m:Nat,OC Tryz.prog 14 [.o (.ptr q g 0),.p (.i o.mark)] [(q,(m,some (bxM b)))] [] (m=g+1) (.p (.sl 40 ((goneF b.out o.mark).map mR) false)) [(q,(m,some (bxM ⟨waitF b.out o.mark,b.ans,b.lost⟩)))]:=fun q g m=>⟨fun h=>obOut_i.call ⟨h,l1,l2⟩⟩
 haveI i3:∀ q g m:Nat,OC Tryz.prog 15 [.o (.ptr q g 0),.p (.i o.mark)] [(q,(m,some (rxM b)))] [] (m=g+1) (.p (.sl 40 ((goneF b.out o.mark).map mR) false)) [(q,(m,some (rxM ⟨waitF b.out o.mark,b.ans,b.lost⟩)))]:=fun q g m=>⟨fun h=>rxOut_i.call ⟨h,l1,l2⟩⟩
 haveI i4:PC Tryz.prog 13 [.p (.sl 40 ((goneF b.out o.mark).map mR) false),.p (.sl 40 ((goneF b.out o.mark).map mR) false)] True (.p (.b true)):=⟨fun _=>cm⟩
 clear cm hI hm l1 l2 hk
 repeat' (first|refine jx17 ?_|refine jy0 ?_ ?_|exact spF|refine spQ fun hq hq'=>?_|refine spN fun hn=>?_|fail)
 refine aws_draws [(3,1000),(7,1001)] mixed (by kernel_rfl) ?_
 repeat' (first|refine jx21 ?_|refine jy1 ?_ ?_|exact spF|refine spQ fun hq hq'=>?_|fail)
 as_aux_lemma=>
  repeat' (first|refine jx17 ?_|refine jy0 ?_ ?_|exact spF|refine spQ fun hq hq'=>?_|refine spN fun hn=>?_|fail)
  exact RetO.mk (ot1 rfl rfl finS_p rfl) ⟨.abs,.abs,trivial⟩
theorem do3_o (hI:BInv N c b) (hm:MIn o.msg) (hN:N≤100000) (hk:o.kind=3):OCall Tryz.prog 12 [.o (.ptr 1000 n 0),.o (.ptr 1001 nd 0),opA o] (memL [(1000,(n+1,some (bxM b))),(1001,(nd+1,some (rxM b)))]) (.p (.b true)) (memL [(1000,(n+1,some (bxM ⟨b.out,waitA b.ans o.mark,b.lost⟩))),(1001,(nd+1,some (rxM ⟨b.out,waitA b.ans o.mark,b.lost⟩)))]):=by
 refine ocall_of22 Tryz.func12 rfl (fun w0 F S0 M0=>?_)
 have hd:=hm.d32
 have q0:decide (o.kind=0)=false:=decide_eq_false (by omega)
 have q1:decide (o.kind=1)=false:=decide_eq_false (by omega)
 have q2:decide (o.kind=2)=false:=decide_eq_false (by omega)
 have q3:decide (o.kind=3)=true:=decide_eq_true hk
 have l1:b.ans.length≤1000000:=by have:=hI.ans;omega
 obtain ⟨G,hG⟩:∃ G,G=goneA b.ans o.mark:=⟨_,rfl⟩
 have hGl:∀ a∈G,a.2.2.length≤100:=fun a ha=>by
  rw [hG] at ha
  obtain ⟨y,hy,rfl⟩:=List.mem_map.1 ha
  exact hI.ll y ((List.mem_filter.1 hy).1)
 have hGn:G.length≤1000000:=by
  rw [hG];unfold goneA;rw [List.length_map]
  exact Nat.le_trans (List.length_filter_le _ _) l1
 haveI i2:∀ q g m:Nat,OC Tryz.prog 19 [.o (.ptr q g 0),.p (.i o.mark)] [(q,(m,some (bxM b)))] [] (m=g+1) (.p (.sl 3 (G.map aR) false)) [(q,(m,some (bxM ⟨b.out,waitA b.ans o.mark,b.lost⟩)))]:=fun q g m=>⟨fun h=>by rw [hG];exact obTold_i.call ⟨h,l1⟩⟩
 haveI i3:∀ q g m:Nat,OC Tryz.prog 42 [.o (.ptr q g 0),.p (.i o.mark)] [(q,(m,some (rxM b)))] [] (m=g+1) (.p (.sl 3 (G.map aR) false)) [(q,(m,some (rxM ⟨b.out,waitA b.ans o.mark,b.lost⟩)))]:=fun q g m=>⟨fun h=>by rw [hG];exact rxTold_i.call ⟨h,l1⟩⟩
 clear hI hm l1 hk hG hN
 have d0:decide ((G.length:Int)≠(G.length:Int))=false:=decide_eq_false (fun h=>h rfl)
 have n0:(!true)=false:=rfl
 repeat' (first|refine jx17 ?_|refine jy0 ?_ ?_|exact spF|refine spQ fun hq hq'=>?_|refine spN fun hn=>?_|fail)
 refine aws_draws [(3,1000),(7,1001)] mixed (by kernel_rfl) ?_
 repeat' (first|refine jx21 ?_|refine jy1 ?_ ?_|exact spF|refine spQ fun hq hq'=>?_|fail)
 repeat' (first|refine jx17 ?_|refine jy0 ?_ ?_|exact spF|refine spQ fun hq hq'=>?_|refine spN fun hn=>?_|fail)
 refine aws_loopS [6,9,71,72,73,74,75,76,77,78,79,80,81,82,83,84,85,86,87] [] (fun (i:Nat)=>[(9,.p (.i i))]) (fun _=>[]) (fun i=>i≤G.length) (fun i=>G.length - i) 0 (Nat.zero_le _) (by exact knA) (by exact knA) ?_
 intro i β γ hi
 by_cases hil:i < G.length
 ·have d1:decide ((i:Int) < (G.length:Int))=true:=decide_eq_true (by omega)
  have ei:(i:Int).toNat=i:=Int.toNat_natCast i
  have hx:=hGl (G.getD (i:Int).toNat default) (by rw [ei,getD_at hil];exact List.getElem_mem _)
  have c1:=of29_w (G.getD (i:Int).toNat default)
  have c2:=refSame29_w (G.getD (i:Int).toNat default) (by omega)
  haveI i5:PC Tryz.prog 41 [aV (G.getD (i:Int).toNat default)] True (aV (G.getD (i:Int).toNat default)):=⟨fun _=>c1⟩
  haveI i6:PC Tryz.prog 43 [aV (G.getD (i:Int).toNat default),aV (G.getD (i:Int).toNat default)] True (.p (.b true)):=⟨fun _=>c2⟩
  clear c1 c2
  as_aux_lemma=>
   repeat' (first|refine jx27 ?_|refine jy0 ?_ ?_|exact spF|refine spQ fun hq hq'=>?_|refine spN fun hn=>?_|fail)
   exact ⟨i+1,_,by omega,by omega,.refl,by exact frA⟩
 ·have d1:decide ((i:Int) < (G.length:Int))=false:=decide_eq_false (by omega)
  as_aux_lemma=>
   repeat' (first|refine jx17 ?_|refine jy0 ?_ ?_|exact spF|refine spQ fun hq hq'=>?_|refine spN fun hn=>?_|fail)
   exact RetO.mk (ot1 rfl rfl finS_p rfl) ⟨.abs,.abs,trivial⟩
end
end Go.Proofs.YtkgploeegbmofaaGreat.Wi
namespace Go.Proofs.YtkgploeegbmofaaGreat.Wi
open Go Go.RowKit Go.Aw Go.Aw.Cart Go.Aw.Tree Go.Proofs.YtkgploeegbmofaaGreat.Ca Go.Proofs.YtkgploeegbmofaaGreat.Rg
set_option linter.unusedVariables false
set_option linter.unusedSimpArgs false
set_option maxRecDepth 8000
set_option maxHeartbeats 4000000
open OD
open O3 (rnSH rkSH stoH3)
section
variable {b:Bx} {o:Obp} {n nd:Nat} {N c:Nat}
theorem do4_o (hI:BInv N c b) (hm:MIn o.msg) (hN:N≤100000) (hk:o.kind=4):OCall Tryz.prog 12 [.o (.ptr 1000 n 0),.o (.ptr 1001 nd 0),opA o] (memL [(1000,(n+1,some (bxM b))),(1001,(nd+1,some (rxM b)))]) (.p (.b true)) (memL [(1000,(n+1,some (bxM ⟨zmk b.out,zmk b.ans,b.lost⟩))),(1001,(nd+1,some (rxM ⟨zmk b.out,zmk b.ans,b.lost⟩)))]):=by
 refine ocall_of22 Tryz.func12 rfl (fun w0 F S0 M0=>?_)
 have hd:=hm.d32
 have q0:decide (o.kind=0)=false:=decide_eq_false (by omega)
 have q1:decide (o.kind=1)=false:=decide_eq_false (by omega)
 have q2:decide (o.kind=2)=false:=decide_eq_false (by omega)
 have q3:decide (o.kind=3)=false:=decide_eq_false (by omega)
 have q4:decide (o.kind=4)=true:=decide_eq_true hk
 have l1:b.out.length≤1000000:=by have:=hI.out;omega
 have l2:b.ans.length≤1000000:=by have:=hI.ans;omega
 have l3:∀ h∈b.out,h.1.dig.length=32:=fun h hh=>(hI.msg h hh).d32
 haveI i2:∀ q g m:Nat,OC Tryz.prog 16 [.o (.ptr q g 0)] [(q,(m,some (bxM b)))] [] (m=g+1) (.tup []) [(q,(m,some (bxM ⟨zmk b.out,zmk b.ans,b.lost⟩)))]:=fun q g m=>⟨fun h=>obShift_i.call ⟨h,l1,l2,l3⟩⟩
 haveI i3:∀ q g m:Nat,OC Tryz.prog 44 [.o (.ptr q g 0)] [(q,(m,some (rxM b)))] [] (m=g+1) (.tup []) [(q,(m,some (rxM ⟨zmk b.out,zmk b.ans,b.lost⟩)))]:=fun q g m=>⟨fun h=>rxShift_i.call ⟨h,l1,l2⟩⟩
 clear hI hm l1 l2 l3 hk hN
 as_aux_lemma=>
  repeat' (first|refine jx17 ?_|refine jy0 ?_ ?_|exact spF|refine spQ fun hq hq'=>?_|refine spN fun hn=>?_|fail)
  exact RetO.mk (ot1 rfl rfl finS_p rfl) ⟨.abs,.abs,trivial⟩
theorem do6_o (hm:MIn o.msg) (h0:o.kind≠0) (h1:o.kind≠1) (h2:o.kind≠2) (h3:o.kind≠3) (h4:o.kind≠4) (h5:o.kind≠5):OCall Tryz.prog 12 [.o (.ptr 1000 n 0),.o (.ptr 1001 nd 0),opA o] (memL [(1000,(n+1,some (bxM b))),(1001,(nd+1,some (rxM b)))]) (.p (.b true)) (memL [(1000,(n+1,some (bxM b))),(1001,(nd+1,some (rxM b)))]):=by
 refine ocall_of22 Tryz.func12 rfl (fun w0 F S0 M0=>?_)
 have hd:=hm.d32
 have q0:decide (o.kind=0)=false:=decide_eq_false h0
 have q1:decide (o.kind=1)=false:=decide_eq_false h1
 have q2:decide (o.kind=2)=false:=decide_eq_false h2
 have q3:decide (o.kind=3)=false:=decide_eq_false h3
 have q4:decide (o.kind=4)=false:=decide_eq_false h4
 have q5:decide (o.kind=5)=false:=decide_eq_false h5
 clear h0 h1 h2 h3 h4 h5
 as_aux_lemma=>
  repeat' (first|refine jx17 ?_|refine jy0 ?_ ?_|exact spF|refine spQ fun hq hq'=>?_|refine spN fun hn=>?_|fail)
  exact RetO.mk (ot1 rfl rfl finS_p rfl) ⟨.abs,.abs,trivial⟩
end
end Go.Proofs.YtkgploeegbmofaaGreat.Wi
