/- keys: the reference's -/
import Derived.Test.YtkgploeegbmofaaGreatOVA14
import Derived.Test.YtkgploeegbmofaaGreatOVA18
namespace Go.Proofs.YtkgploeegbmofaaGreat.Rg
open Go Go.RowKit Go.Aw Go.Aw.Sha Go.Aw.Cart Go.Aw.Ord Go.Sort Go.Proofs.YtkgploeegbmofaaGreat.Ca Go.Proofs.YtkgploeegbmofaaGreat.Sh
set_option linter.unusedVariables false
set_option linter.unusedSimpArgs false
set_option maxRecDepth 8000
set_option maxHeartbeats 4000000
attribute [local irreducible] sum
open Y1
/-! the reference's -/
theorem refKeyRight_w (k:List Nat) (hk:okB k) (hl:k.length≤1000000):PCall Tryz.prog 160 [strV k] (.p (.b (keyR k))):=by
 refine pcall_of Tryz.func160 rfl (fun w0 F S0 M0=>?_)
 unfold keyR
 rw [decide_eq_decide.2 (and_congr Iff.rfl all_get)]
 by_cases h1:k.length < 1
 ·have d1:decide ((k.length:Int) < 1)=true:=decide_eq_true (by omega)
  rw [decide_eq_false (fun q=>by omega)]
  as_aux_lemma=>
   repeat' (first|refine jx5 ?_|refine jy0 ?_ ?_|exact spF|refine spQ fun hq hq'=>?_|refine spN fun hn=>?_|fail)
   exact rt1 rfl rfl finS_p rfl
 have d1:decide ((k.length:Int) < 1)=false:=decide_eq_false (by omega)
 by_cases h2:20 < k.length
 ·have d2:decide (20 < (k.length:Int))=true:=decide_eq_true (by omega)
  rw [decide_eq_false (fun q=>by omega)]
  as_aux_lemma=>
   repeat' (first|refine jx5 ?_|refine jy0 ?_ ?_|exact spF|refine spQ fun hq hq'=>?_|refine spN fun hn=>?_|fail)
   exact rt1 rfl rfl finS_p rfl
 have d2:decide (20 < (k.length:Int))=false:=decide_eq_false (by omega)
 repeat' (first|refine jx5 ?_|refine jy0 ?_ ?_|exact spF|refine spQ fun hq hq'=>?_|refine spN fun hn=>?_|fail)
 refine aws_loopS [2,3,4,13,14,15,16,17,18,19,20,21,22,23,24,25,26,27,28,29,30,31,32,33,34,35,36,37,38,39,40] [] (fun (i:Nat)=>[(3,.p (.i i))]) (fun _=>[]) (fun i=>i≤k.length∧∀ j,j < i→byteOk (k.getD j default)=true) (fun i=>k.length - i) 0 ⟨Nat.zero_le _,fun j hj=>absurd hj (Nat.not_lt_zero _)⟩ (by exact knA) (by exact knA) ?_
 rintro i β γ ⟨hi,hx⟩
 by_cases hil:i < k.length
 ·have d3:decide ((i:Int) < (k.length:Int))=true:=decide_eq_true (by omega)
  have ei:(i:Int).toNat=i:=Int.toNat_natCast i
  obtain ⟨c,hc⟩:∃ c,c=k.getD (i:Int).toNat default:=⟨_,rfl⟩
  have hcb:byteOk c=decide ((97≤c∧c≤122)∨(48≤c∧c≤57)∨c=45):=rfl
  have hci:k.getD i default=c:=by rw [hc,ei]
  have next:byteOk c=true→∀ j,j < i+1→byteOk (k.getD j default)=true:=fun q j hj=>by
   by_cases e:j=i
   ·rw [e,hci];exact q
   ·exact hx j (by omega)
  have bad:byteOk c=false→decide ((1≤k.length∧k.length≤20)∧∀ j,j < k.length→byteOk (k.getD j default)=true)=false:=fun q=>decide_eq_false (fun z=>by have:=z.2 i hil;rw [hci,q] at this;cases this)
  rw [hcb] at next bad
  clear hcb hci
  as_aux_lemma=>
   repeat' (first|refine jx6 ?_|refine jy0 ?_ ?_|exact spF|refine spQ fun hq hq'=>?_|refine spN fun hn=>?_|fail)
   all_goals first|exact ⟨i+1,_,by omega,⟨by omega,next (decide_eq_true (by omega))⟩,.refl,by exact frA⟩|(rw [bad (decide_eq_false (by omega))];exact rt1 rfl rfl finS_p rfl)
 ·have d3:decide ((i:Int) < (k.length:Int))=false:=decide_eq_false (by omega)
  rw [decide_eq_true (show (1≤k.length∧k.length≤20)∧∀ j,j < k.length→byteOk (k.getD j default)=true from ⟨by omega,fun j hj=>hx j (by omega)⟩)]
  as_aux_lemma=>
   repeat' (first|refine jx5 ?_|refine jy0 ?_ ?_|exact spF|refine spQ fun hq hq'=>?_|refine spN fun hn=>?_|fail)
   exact rt1 rfl rfl finS_p rfl
theorem refKeyPart_w (k:List Nat) (hk:okB k) (hl:k.length≤1000000):PCall Tryz.prog 181 [strV k] (.p (.i (partF k:Int))):=by
 refine pcall_of Tryz.func181 rfl (fun w0 F S0 M0=>?_)
 rw [← part_top]
 have hSl:=sum_len k
 have hb:=getD_ok (sum_okB k) 0
 haveI:∀ ex,PC Tryz.prog 192 [bytesN k ex] True (.a ((sum k).map bc)):=fun ex=>⟨fun _=>rsum_c k ex (by omega) hk⟩
 generalize sum k=S at *
 have e:IntKind.i64.wrap ((S.getD (0:Int).toNat default / 32 % md .u8:Nat):Int)=((S.getD 0 default / 32:Nat):Int):=by
  rw [show S.getD (0:Int).toNat default=S.getD 0 default from rfl,show S.getD 0 default / 32 % md .u8=S.getD 0 default / 32 from Nat.mod_eq_of_lt (show S.getD 0 default / 32 < 256 by omega)]
  exact IntWalk.i64_in _ (by omega)
 rw [← e]
 as_aux_lemma=>
  repeat' (first|refine jx5 ?_|refine jy0 ?_ ?_|exact spF|refine spQ fun hq hq'=>?_|refine spN fun hn=>?_|fail)
  exact rt1 rfl rfl finS_p rfl
theorem leaf_top (k:List Nat):(sum k).getD 0 default / 2 % 16=leafF k:=by
 unfold leafF pointF
 have h:=fun j=>getD_ok (sum_okB k) j
 have h0:=h 0;have h1:=h 1;have h2:=h 2;have h3:=h 3;have h4:=h 4;have h5:=h 5;have h6:=h 6;have h7:=h 7
 simp only [pv]
 omega
theorem refKeyLeaf_w (k:List Nat) (hk:okB k) (hl:k.length≤1000000):PCall Tryz.prog 180 [strV k] (.p (.i (leafF k:Int))):=by
 refine pcall_of Tryz.func180 rfl (fun w0 F S0 M0=>?_)
 rw [← leaf_top]
 have hSl:=sum_len k
 have hb:=getD_ok (sum_okB k) 0
 haveI:∀ ex,PC Tryz.prog 192 [bytesN k ex] True (.a ((sum k).map bc)):=fun ex=>⟨fun _=>rsum_c k ex (by omega) hk⟩
 generalize sum k=S at *
 have hm:md .u8=256:=rfl
 have e:IntKind.i64.wrap ((S.getD (0:Int).toNat default / 2 % md .u8 % 16:Nat):Int)=((S.getD 0 default / 2 % 16:Nat):Int):=by
  rw [show S.getD (0:Int).toNat default=S.getD 0 default from rfl,show S.getD 0 default / 2 % md .u8=S.getD 0 default / 2 from Nat.mod_eq_of_lt (show S.getD 0 default / 2 < 256 by omega)]
  exact IntWalk.i64_in _ (by omega)
 rw [← e]
 as_aux_lemma=>
  repeat' (first|refine jx5 ?_|refine jy0 ?_ ?_|exact spF|refine spQ fun hq hq'=>?_|refine spN fun hn=>?_|fail)
  exact rt1 rfl rfl finS_p rfl
end Go.Proofs.YtkgploeegbmofaaGreat.Rg
