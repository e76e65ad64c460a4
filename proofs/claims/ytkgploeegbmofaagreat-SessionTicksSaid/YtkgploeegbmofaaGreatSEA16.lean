/- SHA-256, the program's: a digest's bytes; a block. -/
import Derived.Test.YtkgploeegbmofaaGreatSEA14
namespace Go.Proofs.YtkgploeegbmofaaGreat.Sh
open Go Go.RowKit Go.Aw Go.Aw.Sha
set_option linter.unusedVariables false
set_option linter.unusedSimpArgs false
set_option maxRecDepth 8000
abbrev bc (n:Nat):AC:=.p (.k .u8 (n:Int))
theorem digest_c (s:V8):PCall Tryz.prog 153 [.a (v8 s)] (.a ((digest s).map bc)):=by
 refine pcall_of Tryz.func153 rfl (fun w0 F S0 M0=>?_)
 repeat' (first|refine jx9 ?_|refine jy0 ?_ ?_|exact spF|refine spQ fun hq hq'=>?_|refine spN fun hn=>?_|fail)
 refine aws_loopS (7::[4,5,6,8,9,10,11,12,13,14,15,16,17,18,19,20,21,22,23,24,25,26,27]) [3] (fun (x:Nat × List Nat)=>[(7,.a (s.list.map wc)),(8,.p (.i x.1))]) (fun x=>[(3,(1,some (.box 34 (x.2.map bc))))])
  (fun x=>x.1≤8∧x.2=digTo s (4 * x.1)) (fun x=>8 - x.1) (0,digTo s 0) ⟨Nat.zero_le _,rfl⟩ (by exact knA) (by exact knA) ?_
 rintro ⟨i,ds⟩ β γ ⟨hi,hds⟩
 simp only at hi hds
 have hdl:ds.length=32:=by rw [hds];exact digTo_len s _
 have hsl:s.list.length=8:=rfl
 dsimp only
 repeat' (first|refine jx9 ?_|refine jy0 ?_ ?_|exact spF|refine spQ fun hq hq'=>?_|refine spN fun hn=>?_|fail)
 ·refine aws_loopS [6,12,13,14,15,16,17,18,19,20,21,22,23,24,25,26] [3] (fun (x:Nat × List Nat)=>[(12,.p (.i x.1))]) (fun x=>[(3,(1,some (.box 34 (x.2.map bc))))])
   (fun x=>x.1≤4∧x.2=digTo s (4 * i+x.1)) (fun x=>4 - x.1) (0,ds) ⟨Nat.zero_le _,hds⟩ (by exact knA) (by exact knA) ?_
  rintro ⟨k,ds'⟩ β' γ' ⟨hk,hds'⟩
  simp only at hk hds'
  have hdl':ds'.length=32:=by rw [hds'];exact digTo_len s _
  dsimp only
  repeat' (first|refine jx9 ?_|refine jy0 ?_ ?_|exact spF|refine spQ fun hq hq'=>?_|refine spN fun hn=>?_|fail)
  ·apply ex2 (k+1)
   apply Exists.intro
   refine ⟨?_,⟨?_,?_⟩,.refl,?_⟩
   rotate_left 3
   (focus exact frA)
   ·dsimp only;omega
   ·dsimp only;omega
   ·dsimp only
    have e1:(4 * (i:Int)+(k:Int)).toNat=4 * i+k:=by omega
    have e2:((24:Int) - 8 * (k:Int)).toNat=24 - 8 * k:=by omega
    rw [e1,e2,Int.toNat_natCast,show 4 * i+(k+1)=4 * i+k+1 from rfl,digTo,← hds',show (4 * i+k) / 4=i by omega,show (4 * i+k) % 4=k by omega]
    rfl
  ·refine ⟨(i+1,ds'),_,by dsimp only;omega,⟨by dsimp only;omega,?_⟩,.refl,by exact frA⟩
   dsimp only;rw [hds'];congr 1;omega
 ·refine rc1 rfl rfl rfl rfl rfl (by simpa using hdl) finL_p ?_
  rw [hds,show 4 * i=32 by omega,digTo_all]
instance {s:V8}:PC Tryz.prog 153 [.a (v8 s)] True (.a ((digest s).map bc)):=⟨fun _=>digest_c s⟩
theorem exV {p:Nat × V8→Prop} (t:Nat) {a b c d e f g h:Nat} (H:p (t,⟨a,b,c,d,e,f,g,h⟩)):∃ v,p v:=⟨_,H⟩
attribute [local irreducible] consts spreadTo steps Aw.Sha.step rotr
set_option maxHeartbeats 1000000 in
theorem block_c (s:V8) (b:List Nat) (ex:Bool) (h:b.length=64) (hs:s.ok):PCall Tryz.prog 152 [.a (v8 s),bytesN b ex] (.a (v8 (block s b))):=by
 refine pcall_of Tryz.func152 rfl (fun w0 F S0 M0=>?_)
 repeat' (first|refine jx9 ?_|refine jy0 ?_ ?_|exact spF|refine spQ fun hq hq'=>?_|refine spN fun hn=>?_|fail)
 have hcl:consts.length=64:=by with_unfolding_all rfl
 have hsl:(spreadTo b 64).length=64:=spreadTo_len b 64
 refine aws_draws [(4,5),(5,6),(6,7),(7,5),(8,6),(9,7)] mixed (by kernel_rfl) ?_
 repeat' (first|refine jx10 ?_|refine jy1 ?_ ?_|exact spF|refine spQ fun hq hq'=>?_|fail)
 generalize hW:spreadTo b 64=W at hsl ⊢
 repeat' (first|refine jx9 ?_|refine jy0 ?_ ?_|exact spF|refine spQ fun hq hq'=>?_|refine spN fun hn=>?_|fail)
 refine aws_loopS [8,9,10,11,12,19,20,21,22,23,24,25,26,27,28,29,30,31,32,33,34,35,36,37,38,39,40,41,42,43,44,45,46,47,48,49,50,51,52,53,54,55,56,57,58,59,60,61,62,63,64,65,66,67,68,69,70,71,72,73,74,75,76,77,78,79,80,81,82,83,84,85,86,87,88,89,90,91,92,93,94,95,96,97,98] [7] (fun (x:Nat × V8)=>[(19,.p (.i x.1))]) (fun x=>[(7,(1,some (.box 224 (v8 x.2))))])
  (fun x=>x.1≤64∧x.2=steps W x.1 s) (fun x=>64 - x.1) (0,s) ⟨Nat.zero_le _,by with_unfolding_all rfl⟩ (by exact knA) (by exact knA) ?_
 rintro ⟨t,v⟩ β γ ⟨ht,hv⟩
 simp only at ht hv
 have hvk:v.ok:=by rw [hv];exact steps_ok hs W t
 obtain ⟨va,vb,vc,vd,ve,vf,vg,vh⟩:=v
 obtain ⟨ha,hb,hc,hd,he,hf,hg,hh⟩:=hvk
 simp only at ha hb hc hd he hf hg hh
 dsimp only
 repeat' (first|refine jx9 ?_|refine jy0 ?_ ?_|exact spF|refine spQ fun hq hq'=>?_|refine spN fun hn=>?_|fail)
 ·refine aws_draws [] mixed (by kernel_rfl) ?_
  repeat' (first|refine jx10 ?_|refine jy1 ?_ ?_|exact spF|refine spQ fun hq hq'=>?_|fail)
  repeat' (first|refine jx9 ?_|refine jy0 ?_ ?_|exact spF|refine spQ fun hq hq'=>?_|refine spN fun hn=>?_|fail)
  refine aws_draws [] mixed (by kernel_rfl) ?_
  repeat' (first|refine jx10 ?_|refine jy1 ?_ ?_|exact spF|refine spQ fun hq hq'=>?_|fail)
  repeat' (first|refine jx9 ?_|refine jy0 ?_ ?_|exact spF|refine spQ fun hq hq'=>?_|refine spN fun hn=>?_|fail)
  refine aws_draws [] mixed (by kernel_rfl) ?_
  repeat' (first|refine jx10 ?_|refine jy1 ?_ ?_|exact spF|refine spQ fun hq hq'=>?_|fail)
  repeat' (first|refine jx9 ?_|refine jy0 ?_ ?_|exact spF|refine spQ fun hq hq'=>?_|refine spN fun hn=>?_|fail)
  apply exV (t+1)
  apply Exists.intro
  refine ⟨?_,⟨?_,?_⟩,.refl,?_⟩
  rotate_left 3
  (focus exact frA)
  ·dsimp only;omega
  ·dsimp only;omega
  ·have e:steps W (t+1) s=Aw.Sha.step (steps W t s) (consts.getD t default) (W.getD t default):=by with_unfolding_all rfl
   dsimp only
   rw [e,← hv,Int.toNat_natCast]
   unfold Aw.Sha.step stepX stepY
   rfl
 ·repeat' (first|refine jx9 ?_|refine jy0 ?_ ?_|exact spF|refine spQ fun hq hq'=>?_|refine spN fun hn=>?_|fail)
  have ht64:t=64:=by omega
  subst ht64
  generalize hV:(V8.mk va vb vc vd ve vf vg vh)=V at hv
  refine aws_loopS (99::[13,14,100,101,102,103,104,105,106,107,108,109,110]) [2] (fun (x:Nat × List Nat)=>[(99,.a (V.list.map wc)),(100,.p (.i x.1))]) (fun x=>[(2,(1,some (.box 224 (x.2.map wc))))])
   (fun x=>x.1≤8∧x.2=addTo s V x.1) (fun x=>8 - x.1) (0,addTo s V 0) ⟨Nat.zero_le _,rfl⟩ (by subst hV;exact knA) (by exact knA) ?_
  rintro ⟨i,ds⟩ β' γ' ⟨hi,hds⟩
  simp only at hi hds
  have hdl:ds.length=8:=by rw [hds];exact addTo_len s V _
  have hVl:V.list.length=8:=rfl
  dsimp only
  repeat' (first|refine jx9 ?_|refine jy0 ?_ ?_|exact spF|refine spQ fun hq hq'=>?_|refine spN fun hn=>?_|fail)
  ·apply ex2 (i+1)
   apply Exists.intro
   refine ⟨?_,⟨?_,?_⟩,.refl,?_⟩
   rotate_left 3
   (focus exact frA)
   ·dsimp only;omega
   ·dsimp only;omega
   ·dsimp only
    rw [addTo,← hds,Int.toNat_natCast];rfl
  ·refine rc1 rfl rfl rfl rfl rfl (by simpa using hdl) finL_p ?_
   have hi8:i=8:=by omega
   rw [hds,hi8,addTo_all,hv,← hW]
   rfl
end Go.Proofs.YtkgploeegbmofaaGreat.Sh
