/- the reference, chapters 03 and 06: dots, nodes, how entries stand to each other -/
import Derived.Test.YtpgppgehhclfoaaGreatOBB88
namespace Go.Proofs.YtpgppgehhclfoaaGreat.Cr
open Go Go.RowKit Go.Aw Go.Aw.Cart Go.Aw.Ord Go.Proofs.YtpgppgehhclfoaaGreat.Ca
set_option linter.unusedVariables false
set_option linter.unusedSimpArgs false
set_option maxRecDepth 8000
set_option maxHeartbeats 4000000
end Go.Proofs.YtpgppgehhclfoaaGreat.Cr
namespace Go.Proofs.YtpgppgehhclfoaaGreat.Sh
open Go Go.RowKit Go.Aw Go.Aw.Sha
set_option linter.unusedVariables false
set_option linter.unusedSimpArgs false
set_option maxRecDepth 8000
abbrev bytesN (l:List Nat) (ex:Bool):AV:=.p (.sl 1 (l.map fun n:Nat=>[PVal.k .u8 (n:Int)]) ex)
set_option maxHeartbeats 2000000 in
theorem spread_c (b:List Nat) (ex:Bool) (h:b.length=64):PCall Tryz.prog 237 [bytesN b ex] (.a ((spreadTo b 64).map wc)):=by
 refine pcall_of Tryz.func237 rfl (fun w0 F S0 M0=>?_)
 repeat' (first|refine jx9 ?_|refine jy0 ?_ ?_|exact spF|refine spQ fun hq hq'=>?_|refine spN fun hn=>?_|fail)
 refine aws_loopS [4,5,9,10,11,12,13,14,15,16,17,18,19,20,21,22,23,24,25,26,27,28,29,30,31,32,33,34,35,36,37,38,39,40] [3] (fun (x:Nat × List Nat)=>[(9,.p (.i x.1))]) (fun x=>[(3,(1,some (.box 307 (x.2.map wc))))])
  (fun x=>x.1≤16∧x.2=spreadTo b x.1) (fun x=>16 - x.1) (0,spreadTo b 0) ⟨Nat.zero_le _,rfl⟩ (by exact knA) (by exact knA) ?_
 rintro ⟨t,ws⟩ β γ ⟨ht,hws⟩
 simp only at ht hws
 have hwl:ws.length=64:=by rw [hws];exact spreadTo_len b t
 dsimp only
 repeat' (first|refine jx9 ?_|refine jy0 ?_ ?_|exact spF|refine spQ fun hq hq'=>?_|refine spN fun hn=>?_|fail)
 ·refine aws_draws [(24,3)] mixed (by kernel_rfl) ?_
  repeat' (first|refine jx10 ?_|refine jy1 ?_ ?_|exact spF|refine spQ fun hq hq'=>?_|fail)
  repeat' (first|refine jx9 ?_|refine jy0 ?_ ?_|exact spF|refine spQ fun hq hq'=>?_|refine spN fun hn=>?_|fail)
  apply ex2 (t+1)
  apply Exists.intro
  refine ⟨?_,⟨?_,?_⟩,.refl,?_⟩
  rotate_left 3
  (focus exact frA)
  ·dsimp only;omega
  ·dsimp only;omega
  ·dsimp only
   have e4:(4 * (t:Int)).toNat=4 * t:=by omega
   rw [spreadTo,if_pos (by omega),hws,e4,Int.toNat_natCast]
   rfl
 ·refine aws_loopS [6,7,8,41,42,43,44,45,46,47,48,49,50,51,52,53,54,55,56,57,58,59,60,61,62,63,64,65,66,67,68,69,70,71,72,73,74,75,76,77,78,79,80,81] [3] (fun (x:Nat × List Nat)=>[(6,.p (.i x.1))]) (fun x=>[(3,(1,some (.box 307 (x.2.map wc))))])
   (fun x=>16≤x.1∧x.1≤64∧x.2=spreadTo b x.1) (fun x=>64 - x.1) (16,ws) ⟨Nat.le_refl 16,by show 16≤64;omega,by dsimp only;rw [hws];congr 1;omega⟩ (by exact knA) (by exact knA) ?_
  rintro ⟨t',ws'⟩ β' γ' ⟨ht0,ht',hws'⟩
  simp only at ht0 ht' hws'
  have hwl':ws'.length=64:=by rw [hws'];exact spreadTo_len b t'
  have hx:ws'.getD ((t':Int) - 15).toNat default < M:=by rw [hws'];exact spreadTo_lt b _ _
  have hy:ws'.getD ((t':Int) - 2).toNat default < M:=by rw [hws'];exact spreadTo_lt b _ _
  dsimp only
  repeat' (first|refine jx9 ?_|refine jy0 ?_ ?_|exact spF|refine spQ fun hq hq'=>?_|refine spN fun hn=>?_|fail)
  ·refine aws_draws [] mixed (by kernel_rfl) ?_
   repeat' (first|refine jx10 ?_|refine jy1 ?_ ?_|exact spF|refine spQ fun hq hq'=>?_|fail)
   repeat' (first|refine jx9 ?_|refine jy0 ?_ ?_|exact spF|refine spQ fun hq hq'=>?_|refine spN fun hn=>?_|fail)
   refine aws_draws [(29,3)] mixed (by kernel_rfl) ?_
   repeat' (first|refine jx10 ?_|refine jy1 ?_ ?_|exact spF|refine spQ fun hq hq'=>?_|fail)
   repeat' (first|refine jx9 ?_|refine jy0 ?_ ?_|exact spF|refine spQ fun hq hq'=>?_|refine spN fun hn=>?_|fail)
   apply ex2 (t'+1)
   apply Exists.intro
   refine ⟨?_,⟨?_,?_,?_⟩,.refl,?_⟩
   rotate_left 4
   (focus exact frA)
   ·dsimp only;omega
   ·dsimp only;omega
   ·dsimp only;omega
   ·dsimp only
    have e15:((t':Int) - 15).toNat=t' - 15:=by omega
    have e16:((t':Int) - 16).toNat=t' - 16:=by omega
    have e2:((t':Int) - 2).toNat=t' - 2:=by omega
    have e7:((t':Int) - 7).toNat=t' - 7:=by omega
    rw [spreadTo,if_neg (by omega),e15,e16,e2,e7,Int.toNat_natCast,← hws']
    rfl
  ·refine rc1 rfl rfl rfl rfl rfl (by simpa using hwl') finL_p ?_
   rw [hws',show t'=64 by omega]
instance {b:List Nat} {ex:Bool}:PC Tryz.prog 237 [bytesN b ex] (b.length=64) (.a ((spreadTo b 64).map wc)):=⟨spread_c b ex⟩
end Go.Proofs.YtpgppgehhclfoaaGreat.Sh
