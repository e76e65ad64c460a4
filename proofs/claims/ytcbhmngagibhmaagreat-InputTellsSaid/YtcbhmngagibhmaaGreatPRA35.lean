/- SHA-256, the reference: behind a block -/
import Derived.Test.YtcbhmngagibhmaaGreatPRA15
namespace Go.Proofs.YtcbhmngagibhmaaGreat.Sh
open Go Go.RowKit Go.Aw Go.Aw.Sha
set_option linter.unusedVariables false
set_option linter.unusedSimpArgs false
set_option maxRecDepth 8000
set_option maxHeartbeats 4000000
theorem exV' {p:Nat × V8 × List Nat→Prop} (t:Nat) {a b c d e f g h:Nat} {w:List Nat} (H:p (t,⟨a,b,c,d,e,f,g,h⟩,w)):∃ v,p v:=⟨_,H⟩
attribute [local irreducible] consts spreadTo steps Aw.Sha.step rotr wordR
theorem spreadTo_succ (b:List Nat) (t:Nat):spreadTo b (t+1)=(spreadTo b t).set t (wordR b (spreadTo b t) t):=by
 with_unfolding_all rfl
theorem wordR_spread (b:List Nat) (t:Nat) (h:t < 64):(spreadTo b 64).getD t default=wordR b (spreadTo b t) t:=by
 have h1:=spreadTo_stay b (t+1) t (by omega) (64 - (t+1))
 rw [show t+1+(64 - (t+1))=64 by omega] at h1
 rw [h1,spreadTo_succ,List.getD_eq_getElem?_getD,List.getElem?_set_self (by rw [spreadTo_len];exact h)];rfl
theorem rnext_c (h:V8) (b:List Nat) (ex:Bool) (hbl:b.length=64) (hb:okB b) (hh:h.ok):PCall Tryz.prog 237 [.a (u8c h),bytesN b ex] (.a (u8c (block h b))):=by
 refine pcall_of Tryz.func237 rfl (fun w0 F S0 M0=>?_)
 have hcl:consts.length=64:=by with_unfolding_all rfl
 repeat' (first|refine jx17 ?_|refine jy0 ?_ ?_|exact spF|refine spQ fun hq hq'=>?_|refine spN fun hn=>?_|fail)
 refine aws_loopS (26::[8,9,10,11,12,13,17,18,19,20,21,22,23,24,25,26,27,28,29,30,31,32,33,34,35,36,37,38,39,40,41,42,43,44,45,46,47,48,49,50,51,52,53,54,55,56,57,58,59,60,61,62,63,64,65,66,67,68,69,70,71,72,73,74,75,76,77,78,79,80,81,82,83,84,85,86,87,88,89,90,91,92,93,94,95,96,97,98,99,100,101,102,103,104,105,106,107,108,109,110,111,112,113,114,115,116]) [6,7] (fun (x:Nat × V8 × List Nat)=>[(8,.p (.i x.1))]) (fun x=>[(6,(1,some (wbox x.2.2))),(7,(1,some (.box 148 (u8c x.2.1))))])
  (fun x=>x.1≤64∧x.2.1=steps (spreadTo b 64) x.1 h∧x.2.2=spreadTo b x.1) (fun x=>64 - x.1) (0,h,spreadTo b 0) ⟨Nat.zero_le _,by with_unfolding_all rfl,rfl⟩ (by exact knA) (by with_unfolding_all exact knA) ?_
 rintro ⟨t,v,ws⟩ β γ ⟨ht,hv,hws⟩
 simp only at ht hv hws
 have hvk:v.ok:=by rw [hv];exact steps_ok hh _ t
 have hwl:ws.length=64:=by rw [hws];exact spreadTo_len b t
 have hwlt:∀ i,ws.getD i default < M:=by rw [hws];exact spreadTo_lt b t
 obtain ⟨va,vb,vc,vd,ve,vf,vg,vh⟩:=v
 obtain ⟨ha,hb',hc,hd,he,hf,hg,hhh⟩:=hvk
 simp only at ha hb' hc hd he hf hg hhh
 dsimp only
 by_cases ht64:t < 64
 ·have hdt:decide ((t:Int) < 64)=true:=decide_eq_true (by omega)
  have hwR:wordR b ws t < M:=by rw [hws,← wordR_spread b t ht64];exact spreadTo_lt b 64 t
  have hws2:(ws.set (t:Int).toNat (wordR b ws t)).length=64:=by rw [List.length_set];exact hwl
  repeat' (first|refine jx17 ?_|refine jy0 ?_ ?_|exact spF|refine spQ fun hq hq'=>?_|refine spN fun hn=>?_|fail)
  refine aws_draws [] mixed (by kernel_rfl) ?_
  repeat' (first|refine jx18 ?_|refine jy1 ?_ ?_|exact spF|refine spQ fun hq hq'=>?_|fail)
  repeat' (first|refine jx17 ?_|refine jy0 ?_ ?_|exact spF|refine spQ fun hq hq'=>?_|refine spN fun hn=>?_|fail)
  refine aws_draws [] mixed (by kernel_rfl) ?_
  repeat' (first|refine jx18 ?_|refine jy1 ?_ ?_|exact spF|refine spQ fun hq hq'=>?_|fail)
  repeat' (first|refine jx17 ?_|refine jy0 ?_ ?_|exact spF|refine spQ fun hq hq'=>?_|refine spN fun hn=>?_|fail)
  refine aws_draws [] mixed (by kernel_rfl) ?_
  repeat' (first|refine jx18 ?_|refine jy1 ?_ ?_|exact spF|refine spQ fun hq hq'=>?_|fail)
  repeat' (first|refine jx17 ?_|refine jy0 ?_ ?_|exact spF|refine spQ fun hq hq'=>?_|refine spN fun hn=>?_|fail)
  apply exV' (t+1)
  apply Exists.intro
  refine ⟨?_,⟨?_,?_,?_⟩,.refl,?_⟩
  rotate_left 4
  (focus exact frA)
  ·dsimp only;omega
  ·dsimp only;omega
  ·have e:steps (spreadTo b 64) (t+1) h=Aw.Sha.step (steps (spreadTo b 64) t h) (consts.getD t default) ((spreadTo b 64).getD t default):=by with_unfolding_all rfl
   have hget:(ws.set t (wordR b ws t)).getD t default=wordR b ws t:=by
    rw [List.getD_eq_getElem?_getD,List.getElem?_set_self (by rw [hwl];exact ht64)];rfl
   dsimp only
   rw [e,wordR_spread b t ht64,← hws,← hv,Int.toNat_natCast,hget]
   exact (step_eq ha hb' hc hd he hf hg hhh (consts_lt t) hwR rfl rfl rfl rfl rfl).symm
  ·dsimp only
   rw [Int.toNat_natCast,spreadTo_succ,← hws]
 ·have hdt:decide ((t:Int) < 64)=false:=decide_eq_false (by omega)
  repeat' (first|refine jx17 ?_|refine jy0 ?_ ?_|exact spF|refine spQ fun hq hq'=>?_|refine spN fun hn=>?_|fail)
  have ht64':t=64:=by omega
  subst ht64'
  generalize hV:(V8.mk va vb vc vd ve vf vg vh)=V at hv
  have hvl:V.list=[va,vb,vc,vd,ve,vf,vg,vh]:=by rw [← hV];rfl
  refine aws_loopS [14,117,118,119,120,121,122,123,124,125,126,127,128,129,130] [2,7] (fun (x:Nat × List Nat)=>[(14,.p (.i x.1))]) (fun x=>[(2,(1,some (.box 148 (x.2.map uc)))),(7,(1,some (.box 148 (V.list.map uc))))])
   (fun x=>x.1≤8∧x.2=addTo h V x.1) (fun x=>8 - x.1) (0,addTo h V 0) ⟨Nat.zero_le _,rfl⟩ (by exact knA) (by subst hV;exact knA) ?_
  rintro ⟨i,ds⟩ β' γ' ⟨hi,hds⟩
  simp only at hi hds
  have hdl:ds.length=8:=by rw [hds];exact addTo_len h V _
  have hVl:V.list.length=8:=rfl
  dsimp only
  by_cases hi8:i < 8
  ·have hdi:decide ((i:Int) < 8)=true:=decide_eq_true (by omega)
   repeat' (first|refine jx17 ?_|refine jy0 ?_ ?_|exact spF|refine spQ fun hq hq'=>?_|refine spN fun hn=>?_|fail)
   refine aws_draws [(10,2)] mixed (by kernel_rfl) ?_
   repeat' (first|refine jx18 ?_|refine jy1 ?_ ?_|exact spF|refine spQ fun hq hq'=>?_|fail)
   repeat' (first|refine jx17 ?_|refine jy0 ?_ ?_|exact spF|refine spQ fun hq hq'=>?_|refine spN fun hn=>?_|fail)
   apply ex2 (i+1)
   apply Exists.intro
   refine ⟨?_,⟨?_,?_⟩,.refl,?_⟩
   rotate_left 3
   (focus exact frA)
   ·dsimp only;omega
   ·dsimp only;omega
   ·dsimp only
    rw [addTo,← hds,Int.toNat_natCast,Nat.mod_mod_of_dvd _ (show 4294967296 ∣ md .u64 by decide)]
  ·have hdi:decide ((i:Int) < 8)=false:=decide_eq_false (by omega)
   repeat' (first|refine jx17 ?_|refine jy0 ?_ ?_|exact spF|refine spQ fun hq hq'=>?_|refine spN fun hn=>?_|fail)
   refine rc1 rfl rfl rfl rfl rfl (by simpa using hdl) finL_p ?_
   have hi8':i=8:=by omega
   rw [hds,hi8',addTo_all,hv]
   with_unfolding_all rfl
end Go.Proofs.YtcbhmngagibhmaaGreat.Sh
