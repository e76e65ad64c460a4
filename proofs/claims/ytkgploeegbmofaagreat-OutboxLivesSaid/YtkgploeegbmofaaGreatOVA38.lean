/- SHA-256, the reference: a word of a block -/
import Derived.Test.YtkgploeegbmofaaGreatOVA12
import Derived.Test.YtkgploeegbmofaaGreatOVA10
namespace Go.Proofs.YtkgploeegbmofaaGreat.Sh
open Go Go.RowKit Go.Aw Go.Aw.Sha
set_option linter.unusedVariables false
set_option linter.unusedSimpArgs false
set_option maxRecDepth 8000
set_option maxHeartbeats 4000000
def wordR (b w:List Nat) (t:Nat):Nat:=if t < 16 then word4 b t else wordN w t
abbrev wbox (w:List Nat):MO:=.box 283 (w.map uc)
attribute [local irreducible] rotr
theorem getD_lt {b:List Nat} {m:Nat} (h:∀ x∈b,x < m) (h0:0 < m) (i:Nat):b.getD i default < m:=by
 rw [List.getD_eq_getElem?_getD]
 cases hx:b[i]? with
 | none=>exact h0
 | some x=>exact h x (List.mem_of_getElem? hx)
theorem getD_drop {b:List Nat} {n i:Nat}:(b.drop n).getD i default=b.getD (n+i) default:=by
 rw [List.getD_eq_getElem?_getD,List.getD_eq_getElem?_getD,List.getElem?_drop]
theorem wbox_ren {ρ:Rn} {w:List Nat}:MO.ren ρ (wbox w)=wbox w:=by
 show MO.box _ ((w.map uc).map (AC.ren ρ))=_
 rw [List.map_map];rfl
theorem rword_c (n:Nat) (b w:List Nat) (ex:Bool) (t:Nat) (h:b.length=64∧w.length=64∧t < 64) (hb:okB b) (hw:∀ i,w.getD i default < M) :
  OCall Tryz.prog 216 [bytesN b ex,.o (.asl 1000 n 0 64 64),.p (.i (t:Int))] (memL [(1000,(n+1,some (wbox w)))]) (.p (.k .u64 ((wordR b w t:Nat):Int))) (memL [(1000,(n+1,some (wbox w)))]):=by
 refine ocall_of1 Tryz.func216 rfl (fun w0 F S0 M0=>?_)
 obtain ⟨hbl,hwl,ht⟩:=h
 by_cases h16:t < 16
 ·have hd:decide ((t:Int) < 16)=true:=decide_eq_true (by omega)
  repeat' (first|refine jx22 ?_|refine jy0 ?_ ?_|exact spF|refine spQ fun hq hq'=>?_|refine spN fun hn=>?_|fail)
  refine aws_draws [] mixed (by kernel_rfl) ?_
  repeat' (first|refine jx23 ?_|refine jy1 ?_ ?_|exact spF|refine spQ fun hq hq'=>?_|fail)
  repeat' (first|refine jx22 ?_|refine jy0 ?_ ?_|exact spF|refine spQ fun hq hq'=>?_|refine spN fun hn=>?_|fail)
  refine RetO.mk (ot1 rfl rfl finS_p (ri ?_)) ⟨finM_box rfl finL_p,trivial⟩
  have e0:(4 * (t:Int)).toNat=4 * t+0:=by omega
  have e1:(4 * (t:Int)+1).toNat=4 * t+1:=by omega
  have e2:(4 * (t:Int)+2).toNat=4 * t+2:=by omega
  have e3:(4 * (t:Int)+3).toNat=4 * t+3:=by omega
  rw [e0,e1,e2,e3]
  have k0:=getD_lt (m:=256) hb (by decide) (4 * t+0)
  have k1:=getD_lt (m:=256) hb (by decide) (4 * t+1)
  have k2:=getD_lt (m:=256) hb (by decide) (4 * t+2)
  have k3:=getD_lt (m:=256) hb (by decide) (4 * t+3)
  unfold wordR
  rw [if_pos h16,word4_eq (t:=t) getD_drop getD_drop getD_drop getD_drop k0 k1 k2 k3]
  refine congrArg Nat.cast ?_
  generalize b.getD (4 * t+0) default=b0 at *
  generalize b.getD (4 * t+1) default=b1 at *
  generalize b.getD (4 * t+2) default=b2 at *
  generalize b.getD (4 * t+3) default=b3 at *
  simp only [md]
  omega
 ·have hd:decide ((t:Int) < 16)=false:=decide_eq_false (by omega)
  have hx:=hw ((t:Int) - 15).toNat
  have hy:=hw ((t:Int) - 2).toNat
  repeat' (first|refine jx22 ?_|refine jy0 ?_ ?_|exact spF|refine spQ fun hq hq'=>?_|refine spN fun hn=>?_|fail)
  refine aws_draws [] mixed (by kernel_rfl) ?_
  repeat' (first|refine jx23 ?_|refine jy1 ?_ ?_|exact spF|refine spQ fun hq hq'=>?_|fail)
  repeat' (first|refine jx22 ?_|refine jy0 ?_ ?_|exact spF|refine spQ fun hq hq'=>?_|refine spN fun hn=>?_|fail)
  refine aws_draws [] mixed (by kernel_rfl) ?_
  repeat' (first|refine jx23 ?_|refine jy1 ?_ ?_|exact spF|refine spQ fun hq hq'=>?_|fail)
  repeat' (first|refine jx22 ?_|refine jy0 ?_ ?_|exact spF|refine spQ fun hq hq'=>?_|refine spN fun hn=>?_|fail)
  refine RetO.mk (ot1 rfl rfl finS_p (ri ?_)) ⟨finM_box rfl finL_p,trivial⟩
  have e15:((t:Int) - 15).toNat=t - 15:=by omega
  have e16:((t:Int) - 16).toNat=t - 16:=by omega
  have e2:((t:Int) - 2).toNat=t - 2:=by omega
  have e7:((t:Int) - 7).toNat=t - 7:=by omega
  rw [e15] at hx;rw [e2] at hy
  rw [e15,e16,e2,e7]
  unfold wordR wordN
  rw [if_neg h16]
  refine congrArg Nat.cast ?_
  have h7:=hw (t - 7)
  have h1:=hw (t - 16)
  generalize w.getD (t - 15) default=x at *
  generalize w.getD (t - 2) default=y at *
  generalize w.getD (t - 16) default=p at *
  generalize w.getD (t - 7) default=q at *
  exact wordN_eq hx hy h1 h7
instance {c n:Nat} {b w:List Nat} {ex:Bool} {t:Nat}:OC Tryz.prog 216 [bytesN b ex,.o (.asl c n 0 64 64),.p (.i (t:Int))] [(c,(n+1,some (wbox w)))] [] ((b.length=64∧w.length=64∧t < 64)∧okB b∧∀ i,w.getD i default < M)
  (.p (.k .u64 ((wordR b w t:Nat):Int))) [(c,(n+1,some (wbox w)))]:=⟨fun h=>by
 have:=(rword_c n b w ex t h.1 h.2.1 h.2.2).one c
 simp only [List.map_cons,List.map_nil,Option.map_some,wbox_ren] at this
 exact this⟩
end Go.Proofs.YtkgploeegbmofaaGreat.Sh
namespace Go.Proofs.YtkgploeegbmofaaGreat.Sh
open Go Go.RowKit Go.Aw Go.Aw.Sha
set_option linter.unusedVariables false
set_option linter.unusedSimpArgs false
set_option maxRecDepth 8000
set_option maxHeartbeats 4000000
theorem exV' {p:Nat × V8 × List Nat→Prop} (t:Nat) {a b c d e f g h:Nat} {w:List Nat} (H:p (t,⟨a,b,c,d,e,f,g,h⟩,w)):∃ v,p v:=⟨_,H⟩
attribute [local irreducible] consts spreadTo steps Aw.Sha.step rotr wordR
theorem spreadTo_succ (b:List Nat) (t:Nat):spreadTo b (t+1)=(spreadTo b t).set t (wordR b (spreadTo b t) t):=by
 with_unfolding_all rfl
theorem wordR_spread (b:List Nat) (t:Nat) (h:t < 64):(spreadTo b 64).getD t default=wordR b (spreadTo b t) t:=by
 have h1:=spreadTo_stay b (t+1) t (by omega) (64 - (t+1))
 rw [show t+1+(64 - (t+1))=64 by omega] at h1
 rw [h1,spreadTo_succ,List.getD_eq_getElem?_getD,List.getElem?_set_self (by rw [spreadTo_len];exact h)];rfl
theorem rnext_c (h:V8) (b:List Nat) (ex:Bool) (hbl:b.length=64) (hb:okB b) (hh:h.ok):PCall Tryz.prog 201 [.a (u8c h),bytesN b ex] (.a (u8c (block h b))):=by
 refine pcall_of Tryz.func201 rfl (fun w0 F S0 M0=>?_)
 have hcl:consts.length=64:=by with_unfolding_all rfl
 repeat' (first|refine jx22 ?_|refine jy0 ?_ ?_|exact spF|refine spQ fun hq hq'=>?_|refine spN fun hn=>?_|fail)
 refine aws_loopS (26::[8,9,10,11,12,13,17,18,19,20,21,22,23,24,25,26,27,28,29,30,31,32,33,34,35,36,37,38,39,40,41,42,43,44,45,46,47,48,49,50,51,52,53,54,55,56,57,58,59,60,61,62,63,64,65,66,67,68,69,70,71,72,73,74,75,76,77,78,79,80,81,82,83,84,85,86,87,88,89,90,91,92,93,94,95,96,97,98,99,100,101,102,103,104,105,106,107,108,109,110,111,112,113,114,115,116]) [6,7] (fun (x:Nat × V8 × List Nat)=>[(8,.p (.i x.1))]) (fun x=>[(6,(1,some (wbox x.2.2))),(7,(1,some (.box 117 (u8c x.2.1))))])
  (fun x=>x.1≤64∧x.2.1=steps (spreadTo b 64) x.1 h∧x.2.2=spreadTo b x.1) (fun x=>64 - x.1) (0,h,spreadTo b 0) ⟨Nat.zero_le _,by with_unfolding_all rfl,rfl⟩ (by exact knA) (by with_unfolding_all exact knA) ?_
 rintro ⟨t,v,ws⟩ β γ ⟨ht,hv,hws⟩
 simp only at ht hv hws
 have hvk:v.ok:=by rw [hv];exact steps_ok hh _ t
 have hwl:ws.length=64:=by rw [hws];exact spreadTo_len b t
 have hwlt:∀ i,ws.getD i default < M:=by rw [hws];exact spreadTo_lt b t
 obtain ⟨va,vb,vc,vd,ve,vf,vg,vh⟩:=v
 obtain ⟨ha,hb',hc,hd,he,hf,hg,hhh⟩:=hvk
 simp only at ha hb' hc hd he hf hg hhh
 dsimp only
 by_cases ht64:t < 64
 ·have hdt:decide ((t:Int) < 64)=true:=decide_eq_true (by omega)
  have hwR:wordR b ws t < M:=by rw [hws,← wordR_spread b t ht64];exact spreadTo_lt b 64 t
  have hws2:(ws.set (t:Int).toNat (wordR b ws t)).length=64:=by rw [List.length_set];exact hwl
  repeat' (first|refine jx22 ?_|refine jy0 ?_ ?_|exact spF|refine spQ fun hq hq'=>?_|refine spN fun hn=>?_|fail)
  refine aws_draws [] mixed (by kernel_rfl) ?_
  repeat' (first|refine jx23 ?_|refine jy1 ?_ ?_|exact spF|refine spQ fun hq hq'=>?_|fail)
  repeat' (first|refine jx22 ?_|refine jy0 ?_ ?_|exact spF|refine spQ fun hq hq'=>?_|refine spN fun hn=>?_|fail)
  refine aws_draws [] mixed (by kernel_rfl) ?_
  repeat' (first|refine jx23 ?_|refine jy1 ?_ ?_|exact spF|refine spQ fun hq hq'=>?_|fail)
  repeat' (first|refine jx22 ?_|refine jy0 ?_ ?_|exact spF|refine spQ fun hq hq'=>?_|refine spN fun hn=>?_|fail)
  refine aws_draws [] mixed (by kernel_rfl) ?_
  repeat' (first|refine jx23 ?_|refine jy1 ?_ ?_|exact spF|refine spQ fun hq hq'=>?_|fail)
  repeat' (first|refine jx22 ?_|refine jy0 ?_ ?_|exact spF|refine spQ fun hq hq'=>?_|refine spN fun hn=>?_|fail)
  apply exV' (t+1)
  apply Exists.intro
  refine ⟨?_,⟨?_,?_,?_⟩,.refl,?_⟩
  rotate_left 4
  (focus exact frA)
  ·dsimp only;omega
  ·dsimp only;omega
  ·have e:steps (spreadTo b 64) (t+1) h=Aw.Sha.step (steps (spreadTo b 64) t h) (consts.getD t default) ((spreadTo b 64).getD t default):=by with_unfolding_all rfl
   have hget:(ws.set t (wordR b ws t)).getD t default=wordR b ws t:=by
    rw [List.getD_eq_getElem?_getD,List.getElem?_set_self (by rw [hwl];exact ht64)];rfl
   dsimp only
   rw [e,wordR_spread b t ht64,← hws,← hv,Int.toNat_natCast,hget]
   exact (step_eq ha hb' hc hd he hf hg hhh (consts_lt t) hwR rfl rfl rfl rfl rfl).symm
  ·dsimp only
   rw [Int.toNat_natCast,spreadTo_succ,← hws]
 ·have hdt:decide ((t:Int) < 64)=false:=decide_eq_false (by omega)
  repeat' (first|refine jx22 ?_|refine jy0 ?_ ?_|exact spF|refine spQ fun hq hq'=>?_|refine spN fun hn=>?_|fail)
  have ht64':t=64:=by omega
  subst ht64'
  generalize hV:(V8.mk va vb vc vd ve vf vg vh)=V at hv
  have hvl:V.list=[va,vb,vc,vd,ve,vf,vg,vh]:=by rw [← hV];rfl
  refine aws_loopS [14,117,118,119,120,121,122,123,124,125,126,127,128,129,130] [2,7] (fun (x:Nat × List Nat)=>[(14,.p (.i x.1))]) (fun x=>[(2,(1,some (.box 117 (x.2.map uc)))),(7,(1,some (.box 117 (V.list.map uc))))])
   (fun x=>x.1≤8∧x.2=addTo h V x.1) (fun x=>8 - x.1) (0,addTo h V 0) ⟨Nat.zero_le _,rfl⟩ (by exact knA) (by subst hV;exact knA) ?_
  rintro ⟨i,ds⟩ β' γ' ⟨hi,hds⟩
  simp only at hi hds
  have hdl:ds.length=8:=by rw [hds];exact addTo_len h V _
  have hVl:V.list.length=8:=rfl
  dsimp only
  by_cases hi8:i < 8
  ·have hdi:decide ((i:Int) < 8)=true:=decide_eq_true (by omega)
   repeat' (first|refine jx22 ?_|refine jy0 ?_ ?_|exact spF|refine spQ fun hq hq'=>?_|refine spN fun hn=>?_|fail)
   refine aws_draws [(10,2)] mixed (by kernel_rfl) ?_
   repeat' (first|refine jx23 ?_|refine jy1 ?_ ?_|exact spF|refine spQ fun hq hq'=>?_|fail)
   repeat' (first|refine jx22 ?_|refine jy0 ?_ ?_|exact spF|refine spQ fun hq hq'=>?_|refine spN fun hn=>?_|fail)
   apply ex2 (i+1)
   apply Exists.intro
   refine ⟨?_,⟨?_,?_⟩,.refl,?_⟩
   rotate_left 3
   (focus exact frA)
   ·dsimp only;omega
   ·dsimp only;omega
   ·dsimp only
    rw [addTo,← hds,Int.toNat_natCast,Nat.mod_mod_of_dvd _ (show 4294967296 ∣ md .u64 by decide)]
  ·have hdi:decide ((i:Int) < 8)=false:=decide_eq_false (by omega)
   repeat' (first|refine jx22 ?_|refine jy0 ?_ ?_|exact spF|refine spQ fun hq hq'=>?_|refine spN fun hn=>?_|fail)
   refine rc1 rfl rfl rfl rfl rfl (by simpa using hdl) finL_p ?_
   have hi8':i=8:=by omega
   rw [hds,hi8',addTo_all,hv]
   with_unfolding_all rfl
instance {h:V8} {b:List Nat} {ex:Bool}:PC Tryz.prog 201 [.a (u8c h),bytesN b ex] (b.length=64∧okB b∧h.ok) (.a (u8c (block h b))):=⟨fun k=>rnext_c h b ex k.1 k.2.1 k.2.2⟩
end Go.Proofs.YtkgploeegbmofaaGreat.Sh
namespace Go.Proofs.YtkgploeegbmofaaGreat.Sh
open Go Go.RowKit Go.Aw Go.Aw.Sha
set_option linter.unusedVariables false
set_option linter.unusedSimpArgs false
set_option maxRecDepth 8000
set_option maxHeartbeats 4000000
theorem rpad_c (b:List Nat) (ex:Bool) (h:b.length≤500000000):PCall Tryz.prog 200 [bytesN b ex] (bytesN (pad b) false):=by
 refine pcall_of Tryz.func200 rfl (fun w0 F S0 M0=>?_)
 refine aws_seq (aws_region ?_)
 refine rnB (hk:=rn_nil ?_)
 refine aws_seq (aws_region ?_)
 refine rn_any (gd_n rfl rfl) rfl (lop_bz rfl inferInstance inferInstance inferInstance rfl rfl rfl) ?_
 repeat' (first|refine jx24 ?_|refine jy0 ?_ ?_|exact spF|refine spQ fun hq hq'=>?_|refine spN fun hn=>?_|fail)
 refine aws_loopS (3::[3,11,12,13,14,15,16,17]) [6] (fun (x:Nat × Nat × List Nat)=>[(3,.o (.osl 6 x.2.1 1 0 x.2.2.length))]) (fun x=>[(6,(x.2.1+1,some (.buf 5 1 (x.2.2.map br))))])
  (fun x=>x.1≤zeros b.length∧x.2.2=b++[128]++List.replicate x.1 0) (fun x=>zeros b.length - x.1) (0,2,b++[128]) ⟨Nat.zero_le _,by simp⟩ (by exact knA) (by exact knA) ?_
 rintro ⟨j,g,bs⟩ β γ ⟨hj,hb⟩
 simp only at hj hb
 have hz:zeros b.length≤63:=by unfold zeros;omega
 have hbl:bs.length=b.length+1+j:=by rw [hb];simp;omega
 dsimp only
 by_cases hjz:j < zeros b.length
 ·have hd:decide ((bs.length:Int) % 64≠56)=true:=decide_eq_true (by rw [hbl];unfold zeros at hjz;omega)
  repeat' (first|refine jx24 ?_|refine jy0 ?_ ?_|exact spF|refine spQ fun hq hq'=>?_|refine spN fun hn=>?_|fail)
  apply ex3 (j+1) (g+1)
  apply Exists.intro
  refine ⟨?_,⟨?_,?_⟩,.refl,?_⟩
  rotate_left 3
  (focus exact frA)
  ·dsimp only;omega
  ·dsimp only;omega
  ·dsimp only
   rw [hb,List.replicate_succ'];simp
 ·have hjz':j=zeros b.length:=by omega
  have hd:decide ((bs.length:Int) % 64≠56)=false:=decide_eq_false (by rw [hbl,hjz'];unfold zeros;omega)
  repeat' (first|refine jx22 ?_|refine jy0 ?_ ?_|exact spF|refine spQ fun hq hq'=>?_|refine spN fun hn=>?_|fail)
  refine aws_loopS (3::4::[3,4,5,22,23,24,25,26,27,28,29,30,31,32,33]) [6] (fun (x:Nat × Nat × Nat × List Nat)=>[(5,.p (.i x.1)),(4,.p (.k .u64 (x.2.2.1:Int))),(3,.o (.osl 6 x.2.1 1 0 x.2.2.2.length))]) (fun x=>[(6,(x.2.1+1,some (.buf 5 1 (x.2.2.2.map br))))])
   (fun x=>x.1≤8∧x.2.2.1=(b.length * 8 * 256 ^ x.1) % md .u64∧x.2.2.2=bs++(lenBytes b.length).take x.1) (fun x=>8 - x.1) (0,g,(8 * (b.length % md .u64)) % md .u64,bs) ⟨Nat.zero_le _,by
    dsimp only;rw [u64_ok (show b.length < 18446744073709551616 by omega),Nat.pow_zero,Nat.mul_one,Nat.mul_comm],by simp⟩ (by exact knA) (by exact knA) ?_
  rintro ⟨i,g',N,cs⟩ β' γ' ⟨hi,hN,hc⟩
  simp only at hi hN hc
  have hll:(lenBytes b.length).length=8:=by simp [lenBytes]
  have hcl:cs.length=bs.length+i:=by rw [hc,List.length_append,List.length_take,hll];omega
  dsimp only
  by_cases hi8:i < 8
  ·have hdi:decide ((i:Int) < 8)=true:=decide_eq_true (by omega)
   repeat' (first|refine jx22 ?_|refine jy0 ?_ ?_|exact spF|refine spQ fun hq hq'=>?_|refine spN fun hn=>?_|fail)
   refine ⟨(i+1,g'+1,(N * 256) % md .u64,cs++[N / 72057594037927936 % md .u64 % md .u8]),_,by dsimp only;omega,⟨by dsimp only;omega,?_,?_⟩,.refl,by exact frA⟩
   ·dsimp only
    rw [hN,Nat.pow_succ,← Nat.mul_assoc,Nat.mod_mul_mod]
   ·dsimp only
    have h56:N / 72057594037927936 < 18446744073709551616:=Nat.lt_of_le_of_lt (Nat.div_le_self _ _) (by rw [hN];exact Nat.mod_lt _ (by decide))
    have e:N / 72057594037927936 % md .u64 % md .u8=(lenBytes b.length)[i]'(by rw [hll];exact hi8):=by
     rw [u64_ok h56,hN]
     simp only [lenBytes,List.getElem_map,List.getElem_range]
     exact lenB (by omega) hi8
    rw [e,hc,List.append_assoc,List.take_succ_eq_append_getElem (by rw [hll];omega)]
  ·have hdi:decide ((i:Int) < 8)=false:=decide_eq_false (by omega)
   repeat' (first|refine jx22 ?_|refine jy0 ?_ ?_|exact spF|refine spQ fun hq hq'=>?_|refine spN fun hn=>?_|fail)
   refine rt1 rfl rfl (.one (finC_map rfl rfl rfl rfl)) (rs ?_)
   rw [hc,hb,hjz',show i=8 by omega,List.take_of_length_le (by rw [hll];omega)]
   rfl
instance {b:List Nat} {ex:Bool}:PC Tryz.prog 200 [bytesN b ex] (b.length≤500000000) (bytesN (pad b) false):=⟨rpad_c b ex⟩
end Go.Proofs.YtkgploeegbmofaaGreat.Sh
