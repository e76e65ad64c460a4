/- bytes as a law's argument; PackLists over what was read -/
import Derived.Test.YtcbhmngagibhmaaGreatPRA13
import Derived.Test.YtcbhmngagibhmaaGreatPRA24
import Derived.Test.YtcbhmngagibhmaaGreatPRA33
namespace Go.Proofs.YtcbhmngagibhmaaGreat.Wi
open Go Go.RowKit Go.Aw Go.Aw.Cart Go.Proofs.YtcbhmngagibhmaaGreat.Ca
set_option linter.unusedVariables false
set_option linter.unusedSimpArgs false
theorem u8_of {n:Int} (h:IntKind.u8.min≤n∧n≤IntKind.u8.max):((n.toNat:Nat):Int)=n∧n.toNat < 256:=by
 simp only [IntKind.min,IntKind.max,IntKind.signed,IntKind.bits] at h
 simp at h;omega
theorem u8s_map {β:Type} {f:Int→β} {l:List Int} (h:∀ n∈l,IntKind.u8.min≤n∧n≤IntKind.u8.max):(l.map Int.toNat).map (fun n:Nat=>f (n:Int))=l.map f:=by
 rw [List.map_map]
 exact List.map_congr_left fun n hn=>by simp only [Function.comp_apply,(u8_of (h n hn)).1]
theorem u8s_ok {l:List Int} (h:∀ n∈l,IntKind.u8.min≤n∧n≤IntKind.u8.max):okB (l.map Int.toNat):=fun n hn=>by
 obtain ⟨m,hm,rfl⟩:=List.mem_map.1 hn
 exact (u8_of (h m hm)).2
theorem rd_bytesP:Reads Tryz.prog 29 (List Nat) (fun b=>[.sl 1 (b.map bR) false]) (fun b=>okB b∧b.length≤9223372036854775807):=
 (reads_slice (α:=Int) (row:=fun n=>[PVal.k .u8 n]) (ok:=fun n=>IntKind.u8.min≤n∧n≤IntKind.u8.max) inferInstance inferInstance (by decide) (reads_int inferInstance)).imp' (fun l=>l.map Int.toNat)
  (fun l h=>by rw [← u8s_map (f:=fun n=>[PVal.k .u8 n]) h.2]) (fun l h=>⟨u8s_ok h.2,by rw [List.length_map];simpa [maxLen] using h.1⟩)
end Go.Proofs.YtcbhmngagibhmaaGreat.Wi
namespace Go.Proofs.YtcbhmngagibhmaaGreat.Wi
open Go Go.RowKit Go.Aw Go.Aw.Cart Go.Aw.Tree Go.Proofs.YtcbhmngagibhmaaGreat.Ca Go.Proofs.YtcbhmngagibhmaaGreat.Rg
set_option linter.unusedVariables false
set_option linter.unusedSimpArgs false
set_option maxRecDepth 8000
set_option maxHeartbeats 4000000
open V1
end Go.Proofs.YtcbhmngagibhmaaGreat.Wi
namespace Go.Proofs.YtcbhmngagibhmaaGreat.Wi
open Go Go.RowKit Go.Aw Go.Aw.Cart Go.Aw.Tree Go.Proofs.YtcbhmngagibhmaaGreat.Ca Go.Proofs.YtcbhmngagibhmaaGreat.Rg
set_option linter.unusedVariables false
set_option linter.unusedSimpArgs false
set_option maxRecDepth 8000
set_option maxHeartbeats 4000000
attribute [local irreducible] readM msgB rightM sameM greatM zeroM
open V1
end Go.Proofs.YtcbhmngagibhmaaGreat.Wi
namespace Go.Proofs.YtcbhmngagibhmaaGreat.Wi
open Go Go.RowKit Go.Aw Go.Aw.Cart Go.Aw.Tree Go.Proofs.YtcbhmngagibhmaaGreat.Ca Go.Proofs.YtcbhmngagibhmaaGreat.Rg
set_option linter.unusedVariables false
set_option maxRecDepth 8000
theorem rd_digP:Reads Tryz.prog 23 (List Nat) dRw (fun d=>d.length=32∧okB d):=
 (reads_array (α:=Int) (row:=fun n=>[PVal.k .u8 n]) (ok:=fun n=>IntKind.u8.min≤n∧n≤IntKind.u8.max) (inferInstance:TI Tryz.prog 23 _ _ _) (inferInstance:TI Tryz.prog 5 _ _ _) rfl (reads_int inferInstance)).imp' (fun l=>l.map Int.toNat)
  (fun l h=>by
   have e:dRw (l.map Int.toNat)=l.map fun n=>PVal.k .u8 n:=u8s_map (f:=fun n=>PVal.k .u8 n) h.2
   rw [e]
   clear h e
   induction l with
   | nil=>rfl
   | cons b l ih=>simp [ih]) (fun l h=>⟨by simpa using h.1,u8s_ok h.2⟩)
theorem rd_digsP:Reads Tryz.prog 25 (List (List Nat)) (fun l=>[.sl 32 (l.map dRw) false]) (fun l=>l.length≤maxLen∧∀ d∈l,d.length=32∧okB d):=
 reads_slice inferInstance inferInstance (by decide) rd_digP
theorem rd_intsP:Reads Tryz.prog 24 (List Int) (fun l=>[.sl 1 (l.map iRw) false]) (fun l=>l.length≤maxLen∧∀ n∈l,IntKind.i64.min≤n∧n≤IntKind.i64.max):=
 reads_slice inferInstance inferInstance (by decide) (reads_int inferInstance)
theorem lenM {α:Type} {l:List α} (h:l.length≤maxLen):l.length≤9223372036854775807:=by simpa [maxLen] using h
def mRow (m:Msg):List PVal:=[PVal.i m.kind,PVal.i m.frm,PVal.i m.to,PVal.i m.ses,PVal.i m.part]++(dRw m.dig++[.sl 1 (m.pls.map iRw) false,.sl 32 (m.dgs.map dRw) false,.sl 10 (m.kds.map kR) false])
def toM (x:Int × Int × Int × Int × Int × List Nat × List Int × List (List Nat) × List Kd × Unit):Msg:=⟨x.1,x.2.1,x.2.2.1,x.2.2.2.1,x.2.2.2.2.1,x.2.2.2.2.2.1,x.2.2.2.2.2.2.1,x.2.2.2.2.2.2.2.1,x.2.2.2.2.2.2.2.2.1⟩
theorem rd_msg:Reads Tryz.prog 28 Msg mRow MGo:=
 (reads_struct (inferInstance:TI Tryz.prog 28 _ _ _)
  (readsFs_cons (inferInstance:TI Tryz.prog 3 _ _ _) Ca.rd_int (readsFs_cons (inferInstance:TI Tryz.prog 3 _ _ _) Ca.rd_int (readsFs_cons (inferInstance:TI Tryz.prog 3 _ _ _) Ca.rd_int (readsFs_cons (inferInstance:TI Tryz.prog 3 _ _ _) Ca.rd_int (readsFs_cons (inferInstance:TI Tryz.prog 3 _ _ _) Ca.rd_int
  (readsFs_cons (inferInstance:TI Tryz.prog 23 _ _ _) rd_digP (readsFs_cons (inferInstance:TI Tryz.prog 24 _ _ _) rd_intsP (readsFs_cons (inferInstance:TI Tryz.prog 25 _ _ _) rd_digsP (readsFs_cons (inferInstance:TI Tryz.prog 26 _ _ _) rd_kds (readsFs_nil rfl))))))))))).imp'
  toM (fun x _=>rfl) (fun x h=>by
   obtain ⟨_,_,_,_,_,h6,h7,h8,h9,_⟩:=h
   exact ⟨h6.1,h6.2,lenM h7.1,lenM h8.1,h8.2,lenM h9.1,h9.2⟩)
theorem m_arg (m:Msg):argAV true (mRow m)=mV m:=by
 show AV.a ((mRow m).map .p)=_
 unfold mRow
 simp only [List.map_cons,List.map_append,List.map_nil,List.cons_append,List.nil_append]
 show AV.a (_::_::_::_::_::((m.dig.map _).map _++_))=_
 rw [List.map_map];rfl
end Go.Proofs.YtcbhmngagibhmaaGreat.Wi
namespace Go.Proofs.YtcbhmngagibhmaaGreat.Wi
open Go Go.RowKit Go.Aw Go.Aw.Cart Go.Aw.Tree Go.Proofs.YtcbhmngagibhmaaGreat.Ca Go.Proofs.YtcbhmngagibhmaaGreat.Rg
set_option linter.unusedVariables false
set_option linter.unusedSimpArgs false
set_option maxRecDepth 8000
set_option maxHeartbeats 4000000
theorem lop_ap_md {C:Ctx} {o:Oper} {σ:St} {d m:List Nat} {c0 c1 c2 c3 c4:AC} {r:List AC} {T e ty:TypeId} {x y:Operand} {sz by_:Nat} {ke:TK} {be:Nat} {z:List Value} {ob g n len ob2 g2 n2 cap:Nat} (ho:o.op=.call ⟨.builtin .append,#[x,y],#[T,T]⟩) (hT:TI C.P T (.slice e) sz by_) (he:TI C.P e ke 1 be) (hz:TZ C.P e z)
  (hx:σ.look x=.o (.osl ob g 1 0 len)) (hm:σ.mem ob=(n,some (.buf e 1 (m.map bR)))) (hn:n=g+1) (hlr:len=m.length) (hy:σ.look y=.o (.asl ob2 g2 (0+5) 32 cap)) (hm2:σ.mem ob2=(n2,some (.box ty (c0::c1::c2::c3::c4::(d.map bcD++r))))) (hn2:n2=g2+1) (hd32:d.length=32)
  (hzl:z.length=1) (h63:m.length+32≤maxLen) (hby:(m.length+32) * be≤140737488355328) (hd:dOk C o.dst=true) :
  LOp C o σ ⟨.o (.osl ob n 1 0 (m++d).length),[(ob,(n+1,some (.buf e 1 ((m++d).map bR))))]⟩ (fun q=>q == ob2||q == ob):=by
 have hsrc:=src_asl (C:=C) (rows:=d.map bR) (es:=1) hy hm2 hn2 (by rw [List.length_map];exact hd32) (fun i row hr=>by
  rw [List.getElem?_map,Option.map_eq_some_iff] at hr
  obtain ⟨a,ha,rfl⟩:=hr
  refine ⟨rfl,fun j p hp=>?_⟩
  have hi:i < d.length:=(List.getElem?_eq_some_iff.1 ha).1
  match j,hp with
  | 0,hp=>
   obtain rfl:=Option.some.inj hp
   rw [show 0+5+i * 1+0=i+5 by omega]
   show (d.map bcD++r)[i]?=_
   rw [List.getElem?_append_left (by rw [List.length_map];exact hi),List.getElem?_map,ha]
   rfl)
 have:=lop_append_osl (o:=o) ho hx hm hn (by simpa using hlr) hsrc hzl (by rw [List.length_map,List.length_map,hd32];exact h63) (by rw [List.length_map,List.length_map,hd32];exact hby) hd
 simpa using this
namespace R6
theorem lopC {C:Ctx} {o:Oper} {σ:St} {e:Eff} {ro:Nat→Bool} (h:LOp C o σ e ro:=by
  first|(apply lop_sl_arr;(focus rfl);(focus exact inferInstance);(focus exact inferInstance);(focus rfl);(focus rfl))|(apply lop_ap_md;(focus rfl);(focus exact inferInstance);(focus exact inferInstance);(focus exact inferInstance);(focus rfl);(focus rfl);(focus rfl);(focus rfl);(focus rfl);(focus rfl);(focus rfl);(focus assumption);(focus rfl);(focus first|(simp only [maxLen,List.length_append,List.length_cons,List.length_nil,List.length_take,List.length_drop,List.length_map];omega)|omega);(focus first|(simp only [maxLen,List.length_append,List.length_cons,List.length_nil,List.length_take,List.length_drop,List.length_map];omega)|omega);(focus rfl))|(refine lop_ap_ow (q:=fun n:Nat=>PVal.k .u8 (n:Int)) ?_ ?_ ?_ ?_ ?_ ?_ ?_ ?_ ?_ ?_ ?_ ?_ ?_ ?_ ?_ ?_;(focus rfl);(focus exact inferInstance);(focus exact inferInstance);(focus exact inferInstance);(focus rfl);(focus rfl);(focus rfl);(focus rfl);(focus rfl);(focus rfl);(focus rfl);(focus assumption);(focus rfl);(focus first|(simp only [maxLen,List.length_append,List.length_cons,List.length_nil,List.length_take,List.length_drop,List.length_map];omega)|omega);(focus first|(simp only [maxLen,List.length_append,List.length_cons,List.length_nil,List.length_take,List.length_drop,List.length_map];omega)|omega);(focus rfl))|exact T4.lopC|fail):LOp C o σ e ro:=h
section steps
variable {C:Ctx} {ops:Array Oper} {o:Oper} {rest:List Oper} {K:St→Prop} {σ:St} {e:Eff} {ro:Nat→Bool} {W:List (Nat × Nat)} {i:Nat}
theorem rnC {d:Nat} (hg:Guard ops σ o true:=by first|exact gd_n rfl rfl|exact gd_t rfl rfl rfl rfl|exact gd_t rfl rfl rfl (by assumption)) (hd:o.dst=some d:=by rfl) (h:LOp C o σ e ro:=by exact lopC) (hk:RunN C ops rest K (e.app (some d) σ)):RunN C ops (o::rest) K σ:=rn_any hg hd h hk
theorem rkC {d:Nat} (hg:Guard ops σ o true:=by first|exact gd_n rfl rfl|exact gd_t rfl rfl rfl rfl|exact gd_t rfl rfl rfl (by assumption)) (hd':o.dst=some d:=by rfl) (hd:dOk C o.dst=true:=by rfl) (h:LOp C o σ e ro:=by exact lopC) (hro:∀ x,ro x=true→okObj ops W i x=true:=by first|exact fun _=>ro_none|exact ro_one rfl|exact ro_k1 rfl|exact ro_one (by kernel_rfl)|exact ro_k1 (by kernel_rfl)|exact ro_kIn (by decide)) (hob:∀ p∈e.obj,(i,p.1)∈W:=by first|exact ob_none|exact ob_one (by decide)|decide) (hk:RunK C ops W (i+1) rest K (e.app (some d) σ)):RunK C ops W i (o::rest) K σ:=rk_wr hg hd' hd h hro hob hk
end steps
end R6
open R6
theorem refWrite26_w (m:Msg) (h:MIn m) (hr:rightM m=true):PCall Tryz.prog 20 [mV m] (.p (.sl 1 ((msgB m).map bR) false)):=by
 refine pcall_of Tryz.func20 rfl (fun w0 F S0 M0=>?_)
 have ok:=right_ok hr
 have hm:=h.d32
 have h32:(m.dig.map bcD).length=32:=by rw [List.length_map];exact hm
 have pl:=ok.pl
 have dl:=ok.dl
 have k1:=ok.kind
 have k2:=ok.frm
 have k3:=ok.to
 have k4:=ok.ses
 have k5:=ok.part
 have hkd:=kdI_le ok.kds h.kd
 have hkw:=kdW_of h.kd ok.kds
 have hk2:=(keys_iff.1 ok.kds).few
 have hpls:=ok.pls
 have hdg:=fun d hd=>(h.dg d hd).1
 have w1:IntKind.u64.wrap m.kind=m.kind:=u64_in (by omega)
 have w2:IntKind.u64.wrap m.frm=m.frm:=u64_in (by omega)
 have w3:IntKind.u64.wrap m.to=m.to:=u64_in (by omega)
 have w4:IntKind.u64.wrap m.ses=m.ses:=u64_in (by omega)
 have w5:IntKind.u64.wrap m.part=m.part:=u64_in (by omega)
 have w6:IntKind.u64.wrap (m.pls.length:Int)=(m.pls.length:Int):=u64_in (by omega)
 have w7:IntKind.u64.wrap (m.dgs.length:Int)=(m.dgs.length:Int):=u64_in (by omega)
 haveI i1:∀ c k:Nat,OC Tryz.prog 88 [.p (.k .u64 m.kind)] [] [(c,k)] True (.o (.osl c (k+1) 1 0 (numI m.kind).length)) [(c,(k+2,some (.buf 5 1 ((numI m.kind).map bR))))]:=fun c k=>⟨fun _=>by
  obtain ⟨n,hn⟩:∃ n:Nat,m.kind=n:=⟨m.kind.toNat,by omega⟩
  rw [hn,numI_nat]
  exact (refNum_o n (by omega)).fresh1 c k⟩
 haveI i2:=refNumI m.frm (by omega)
 haveI i3:=refNumI m.to (by omega)
 haveI i4:=refNumI m.ses (by omega)
 haveI i5:=refNumI m.part (by omega)
 haveI i6:PC Tryz.prog 88 [.p (.k .u64 (m.pls.length:Int))] True (.p (.sl 1 ((numB m.pls.length).map bR) false)):=⟨fun _=>refNum_w m.pls.length (by omega)⟩
 haveI i7:PC Tryz.prog 88 [.p (.k .u64 (m.dgs.length:Int))] True (.p (.sl 1 ((numB m.dgs.length).map bR) false)):=⟨fun _=>refNum_w m.dgs.length (by omega)⟩
 haveI i8:PC Tryz.prog 89 [.p (.sl 10 (m.kds.map kR) false)] True (.p (.sl 1 ((listB m.kds).map bR) false)):=⟨fun _=>refWriteAll_w m.kds false hk2 hkw⟩
 have n1:=numI_len m.kind
 have n2:=numI_len m.frm
 have n3:=numI_len m.to
 have n4:=numI_len m.ses
 have n5:=numI_len m.part
 have n6:=numB_le m.pls.length
 have n7:=numB_le m.dgs.length
 have hgoal:msgB m=((((((numI m.kind++numI m.frm++numI m.to++numI m.ses++numI m.part)++(if m.kind=1 then m.dig else []))++numB m.pls.length)++m.pls.flatMap numI)++numB m.dgs.length)++m.dgs.flatMap id)++listB m.kds:=by
  unfold msgB msgH headM
  simp only [List.flatMap_cons,List.flatMap_nil,List.append_nil,List.append_assoc]
 rw [hgoal]
 clear hgoal hkw hr
 obtain ⟨D,hD⟩:∃ D,D=if m.kind=1 then m.dig else []:=⟨_,rfl⟩
 have hDl:D.length≤32:=by
  rw [hD]
  split
  ·omega
  ·simp
 rw [← hD]
 repeat' (first|refine jx5 ?_|refine jy0 ?_ ?_|exact spF|refine spQ fun hq hq'=>?_|refine spN fun hn=>?_|fail)
 refine aws_draws [(3,10),(8,10)] mixed (by kernel_rfl) ?_
 repeat' (first|refine jx7 ?_|refine jy1 ?_ ?_|exact spF|refine spQ fun hq hq'=>?_|fail)
 repeat' (first|refine jx5 ?_|refine jy0 ?_ ?_|exact spF|refine spQ fun hq hq'=>?_|refine spN fun hn=>?_|fail)
 refine aws_draws [(5,10),(10,10)] mixed (by kernel_rfl) ?_
 repeat' (first|refine jx7 ?_|refine jy1 ?_ ?_|exact spF|refine spQ fun hq hq'=>?_|fail)
 repeat' (first|refine jx5 ?_|fail)
 have hl5:(numI m.kind++numI m.frm++numI m.to++numI m.ses++numI m.part).length≤45:=by simp only [List.length_append];omega
 generalize numI m.kind++numI m.frm++numI m.to++numI m.ses++numI m.part=L5 at *
 refine aws_mid (fun _:Nat=>True) (fun g=>[(1,.o (.ptr 1 0 0)),(3,.o (.osl 10 g 1 0 (L5++D).length))]) (fun g=>[(1,(1,some (.box 34 (mL m)))),(10,(g+1,some (.buf 5 1 ((L5++D).map bR)))),(6,(0,none))]) ?_ ?_
 ·by_cases q1:m.kind=1
  ·have d1:decide (m.kind=1)=true:=decide_eq_true q1
   rw [if_pos q1] at hD
   rw [hD]
   as_aux_lemma=>
    repeat' (first|refine jx5 ?_|refine jy0 ?_ ?_|exact spF|refine spQ fun hq hq'=>?_|refine spN fun hn=>?_|fail)
    exact ⟨_,trivial,by exact knA,by exact knA⟩
  ·have d1:decide (m.kind=1)=false:=decide_eq_false q1
   rw [if_neg q1] at hD
   rw [hD,List.append_nil]
   as_aux_lemma=>
    repeat' (first|refine jx5 ?_|refine jy0 ?_ ?_|exact spF|refine spQ fun hq hq'=>?_|refine spN fun hn=>?_|fail)
    exact ⟨_,trivial,by exact knA,by exact knA⟩
 rintro g0 ν -
 have hL1:(L5++D).length≤77:=by rw [List.length_append];omega
 generalize L5++D=L1 at hL1 ⊢
 clear hD hDl hl5
 repeat' (first|refine jx5 ?_|refine jy0 ?_ ?_|exact spF|refine spQ fun hq hq'=>?_|refine spN fun hn=>?_|fail)
 have hL2:(L1++numB m.pls.length).length≤86:=by rw [List.length_append];omega
 generalize L1++numB m.pls.length=L2 at hL2 ⊢
 refine aws_loopS (1::[3,4,47,48,49,50,51,52,53,54,55,56,57,58,59,60,61,62]) [10,1] (fun (x:Nat × Nat × List Nat)=>[(4,.p (.i x.1)),(3,.o (.osl 10 x.2.1 1 0 x.2.2.length)),(1,.o (.ptr 1 0 0))]) (fun x=>[(10,(x.2.1+1,some (.buf 5 1 (x.2.2.map bR)))),(1,(1,some (.box 34 (mL m))))]) (fun x=>x.1≤m.pls.length∧x.2.2=L2++(m.pls.take x.1).flatMap numI) (fun x=>m.pls.length - x.1) (0,_,L2) ⟨Nat.zero_le _,(List.append_nil _).symm⟩ (by exact knA) (by exact knA) ?_
 rintro ⟨i,g,B⟩ β γ ⟨hi,hB⟩
 dsimp only at hi hB ⊢
 have hBl:B.length≤230:=by
  rw [hB,List.length_append]
  have:=nums_le (m.pls.take i)
  rw [List.length_take] at this
  omega
 by_cases hil:i < m.pls.length
 ·have d1:decide ((i:Int) < (m.pls.length:Int))=true:=decide_eq_true (by omega)
  have ei:(i:Int).toNat=i:=Int.toNat_natCast i
  have hft:=flat_take numI hil
  rw [show m.pls.getD i default=m.pls.getD (i:Int).toNat default by rw [ei]] at hft
  have hx:=hpls (m.pls.getD (i:Int).toNat default) (by rw [ei,getD_at hil];exact List.getElem_mem _)
  have hn:B++numI (m.pls.getD (i:Int).toNat default)=L2++(m.pls.take (i+1)).flatMap numI:=by rw [hft,hB,List.append_assoc]
  have hw:IntKind.u64.wrap (m.pls.getD (i:Int).toNat default)=m.pls.getD (i:Int).toNat default:=u64_in (by omega)
  haveI:=refNumI (m.pls.getD (i:Int).toNat default) (by omega)
  have hnx:=numI_len (m.pls.getD (i:Int).toNat default)
  clear hB hft
  as_aux_lemma=>
   repeat' (first|refine jx5 ?_|refine jy0 ?_ ?_|exact spF|refine spQ fun hq hq'=>?_|refine spN fun hn=>?_|fail)
   exact ⟨(i+1,_,B++numI (m.pls.getD (i:Int).toNat default)),_,by dsimp only;omega,⟨by dsimp only;omega,hn⟩,.refl,by exact frA⟩
 have d1:decide ((i:Int) < (m.pls.length:Int))=false:=decide_eq_false (by omega)
 obtain rfl:i=m.pls.length:=by omega
 rw [List.take_length] at hB
 rw [← hB]
 clear hB
 have hL3:(B++numB m.dgs.length).length≤240:=by rw [List.length_append];omega
 repeat' (first|refine jx5 ?_|refine jy0 ?_ ?_|exact spF|refine spQ fun hq hq'=>?_|refine spN fun hn=>?_|fail)
 generalize B++numB m.dgs.length=L3 at hL3 ⊢
 refine aws_loopS (1::[3,5,6,70,71,72,73,74,75,76,77,78,79,80,81,82,83,84]) [10,6,1] (fun (x:Nat × Nat × List Nat × Option MO)=>[(5,.p (.i x.1)),(3,.o (.osl 10 x.2.1 1 0 x.2.2.1.length)),(1,.o (.ptr 1 0 0))]) (fun x=>[(10,(x.2.1+1,some (.buf 5 1 (x.2.2.1.map bR)))),(6,(x.1,x.2.2.2)),(1,(1,some (.box 34 (mL m))))]) (fun x=>x.1≤m.dgs.length∧x.2.2.1=L3++(m.dgs.take x.1).flatMap id) (fun x=>m.dgs.length - x.1) (0,_,L3,none) ⟨Nat.zero_le _,(List.append_nil _).symm⟩ (by exact knA) (by exact knA) ?_
 rintro ⟨j,g',E,m6⟩ β' γ' ⟨hj,hE⟩
 dsimp only at hj hE ⊢
 have hEl:E.length≤800:=by
  rw [hE,List.length_append]
  have:=digs_le (l:=m.dgs.take j) fun d hd=>hdg d (List.mem_of_mem_take hd)
  rw [List.length_take] at this
  omega
 by_cases hjl:j < m.dgs.length
 ·have e1:decide ((j:Int) < (m.dgs.length:Int))=true:=decide_eq_true (by omega)
  have ej:(j:Int).toNat=j:=Int.toNat_natCast j
  have hft:=flat_take (id:List Nat→List Nat) hjl
  rw [show m.dgs.getD j default=m.dgs.getD (j:Int).toNat default by rw [ej]] at hft
  have hx:(m.dgs.getD (j:Int).toNat default).length=32:=hdg _ (by rw [ej,getD_at hjl];exact List.getElem_mem _)
  have hn:E++m.dgs.getD (j:Int).toNat default=L3++(m.dgs.take (j+1)).flatMap id:=by rw [hft,hE,List.append_assoc];rfl
  clear hE hft
  as_aux_lemma=>
   repeat' (first|refine jx5 ?_|refine jy0 ?_ ?_|exact spF|refine spQ fun hq hq'=>?_|refine spN fun hn=>?_|fail)
   exact ⟨(j+1,_,E++m.dgs.getD (j:Int).toNat default,_),_,by dsimp only;omega,⟨by dsimp only;omega,hn⟩,.refl,by exact frA⟩
 have e1:decide ((j:Int) < (m.dgs.length:Int))=false:=decide_eq_false (by omega)
 obtain rfl:j=m.dgs.length:=by omega
 rw [List.take_length] at hE
 rw [← hE]
 clear hE
 generalize listB m.kds=KB at i8 hkd ⊢
 as_aux_lemma=>
  repeat' (first|refine jx5 ?_|refine jy0 ?_ ?_|exact spF|refine spQ fun hq hq'=>?_|refine spN fun hn=>?_|fail)
  exact rt1 rfl rfl (.one (finC_map rfl rfl rfl rfl)) rfl
end Go.Proofs.YtcbhmngagibhmaaGreat.Wi
