/- keys: which may be, their points, parts and leaves -/
import Derived.Test.YtkgploeegbmofaaGreatSEA18
import Derived.Test.YtkgploeegbmofaaGreatSEA14
namespace Go.Proofs.YtkgploeegbmofaaGreat.Rg
open Go Go.RowKit Go.Aw Go.Aw.Sha Go.Aw.Cart Go.Aw.Ord Go.Sort Go.Proofs.YtkgploeegbmofaaGreat.Ca Go.Proofs.YtkgploeegbmofaaGreat.Sh
set_option linter.unusedVariables false
set_option linter.unusedSimpArgs false
set_option maxRecDepth 8000
set_option maxHeartbeats 4000000
attribute [local irreducible] sum
abbrev strV (k:List Nat):AV:=.p (.v (.string (strOf k)))
def byteOk (c:Nat):Bool:=decide ((97≤c∧c≤122)∨(48≤c∧c≤57)∨c=45)
def keyR (k:List Nat):Bool:=decide ((1≤k.length∧k.length≤20)∧∀ c∈k,byteOk c=true)
def partF (k:List Nat):Nat:=pointF k / 2305843009213693952
def leafF (k:List Nat):Nat:=pointF k / 144115188075855872 % 16
theorem point_lt (k:List Nat):pointF k < 18446744073709551616:=pv_fit (sum_okB k) (Nat.le_refl 8)
theorem all_get {k:List Nat}:(∀ c∈k,byteOk c=true)↔∀ j,j < k.length→byteOk (k.getD j default)=true:=by
 constructor
 ·intro h j hj
  exact h _ (by rw [getD_at hj];exact List.getElem_mem _)
 ·intro h c hc
  obtain ⟨j,hj,rfl⟩:=getD_mem hc
  exact h j hj
namespace Y1
theorem lopC {C:Ctx} {o:Oper} {σ:St} {e:Eff} {ro:Nat→Bool} (h:LOp C o σ e ro:=by
  first|(apply lop_len_sb;(focus rfl);(focus exact inferInstance);(focus rfl);(focus rfl))|(apply lop_ix_sb;(focus rfl);(focus exact inferInstance);(focus rfl);(focus assumption);(focus rfl);(focus omega);(focus omega);(focus rfl))|exact P6.lopC|fail):LOp C o σ e ro:=h
section steps
variable {C:Ctx} {ops:Array Oper} {o:Oper} {rest:List Oper} {K:St→Prop} {σ:St} {e:Eff} {ro:Nat→Bool} {W:List (Nat × Nat)} {i:Nat}
theorem rnC {d:Nat} (hg:Guard ops σ o true:=by first|exact gd_n rfl rfl|exact gd_t rfl rfl rfl rfl|exact gd_t rfl rfl rfl (by assumption)) (hd:o.dst=some d:=by rfl) (h:LOp C o σ e ro:=by exact lopC) (hk:RunN C ops rest K (e.app (some d) σ)):RunN C ops (o::rest) K σ:=rn_any hg hd h hk
end steps
end Y1
open Y1
theorem isByte_w (c:Nat):PCall Tryz.prog 118 [.p (.k .u8 (c:Int))] (.p (.b (byteOk c))):=by
 refine pcall_of Tryz.func118 rfl (fun w0 F S0 M0=>?_)
 unfold byteOk
 as_aux_lemma=>
  repeat' (first|refine jx6 ?_|refine jy0 ?_ ?_|exact spF|refine spQ fun hq hq'=>?_|refine spN fun hn=>?_|fail)
  all_goals refine rt1 rfl rfl finS_p (rb ?_)
  all_goals first|exact decide_eq_decide.2 (by omega)|exact decide_eq_true (by omega)|exact decide_eq_false (by omega)
instance isByte_i {c:Nat}:PC Tryz.prog 118 [.p (.k .u8 (c:Int))] True (.p (.b (byteOk c))):=⟨fun _=>isByte_w c⟩
theorem keyRightL_w (k:List Nat) (hk:okB k) (hl:k.length≤9223372036854775807):PCall Tryz.prog 73 [strV k] (.p (.b (keyR k))):=by
 refine pcall_of Tryz.func73 rfl (fun w0 F S0 M0=>?_)
 unfold keyR
 rw [decide_eq_decide.2 (and_congr Iff.rfl all_get)]
 repeat' (first|refine jx5 ?_|refine jy0 ?_ ?_|exact spF|refine spQ fun hq hq'=>?_|refine spN fun hn=>?_|fail)
 refine aws_loopS [2,3,6,7,8,9,10,11,12,13,14,15,16,17,18] [] (fun (i:Nat)=>[(6,.p (.i i))]) (fun _=>[]) (fun i=>i≤k.length∧i≤20∧∀ j,j < i→byteOk (k.getD j default)=true) (fun i=>k.length - i) 0 ⟨Nat.zero_le _,Nat.zero_le _,fun j hj=>absurd hj (Nat.not_lt_zero _)⟩ (by exact knA) (by exact knA) ?_
 rintro i β γ ⟨hi,hi2,hx⟩
 by_cases hil:i < k.length
 ·have d1:decide ((i:Int) < (k.length:Int))=true:=decide_eq_true (by omega)
  have ei:(i:Int).toNat=i:=Int.toNat_natCast i
  by_cases h20:20≤i
  ·have d2:decide (20≤(i:Int))=true:=decide_eq_true (by omega)
   rw [decide_eq_false (fun q=>by omega)]
   as_aux_lemma=>
    repeat' (first|refine jx5 ?_|refine jy0 ?_ ?_|exact spF|refine spQ fun hq hq'=>?_|refine spN fun hn=>?_|fail)
    exact rt1 rfl rfl finS_p rfl
  ·have d2:decide (20≤(i:Int))=false:=decide_eq_false (by omega)
   cases hb:byteOk (k.getD (i:Int).toNat default) with
   | true=>
    have d3:(!byteOk (k.getD (i:Int).toNat default))=false:=by rw [hb];rfl
    rw [ei] at hb
    repeat' (first|refine jx5 ?_|refine jy0 ?_ ?_|exact spF|refine spQ fun hq hq'=>?_|refine spN fun hn=>?_|fail)
    refine ⟨i+1,_,by omega,⟨by omega,by omega,fun j hj=>?_⟩,.refl,by exact frA⟩
    by_cases e:j=i
    ·rw [e];exact hb
    ·exact hx j (by omega)
   | false=>
    have d3:(!byteOk (k.getD (i:Int).toNat default))=true:=by rw [hb];rfl
    rw [ei] at hb
    rw [decide_eq_false (fun q=>by have:=q.2 i hil;rw [hb] at this;cases this)]
    as_aux_lemma=>
     repeat' (first|refine jx5 ?_|refine jy0 ?_ ?_|exact spF|refine spQ fun hq hq'=>?_|refine spN fun hn=>?_|fail)
     exact rt1 rfl rfl finS_p rfl
 ·have d1:decide ((i:Int) < (k.length:Int))=false:=decide_eq_false (by omega)
  rw [decide_eq_decide.2 (show ((1≤k.length∧k.length≤20)∧∀ j,j < k.length→byteOk (k.getD j default)=true)↔0 < (k.length:Int) from ⟨fun q=>by omega,fun q=>⟨by omega,fun j hj=>hx j (by omega)⟩⟩)]
  as_aux_lemma=>
   repeat' (first|refine jx5 ?_|refine jy0 ?_ ?_|exact spF|refine spQ fun hq hq'=>?_|refine spN fun hn=>?_|fail)
   exact rt1 rfl rfl finS_p rfl
theorem keyRight_w (k:List Nat) (hk:okB k) (hl:k.length≤1000000):PCall Tryz.prog 73 [strV k] (.p (.b (keyR k))):=keyRightL_w k hk (by omega)
theorem keyPoint_w (k:List Nat) (hk:okB k) (hl:k.length≤1000000):PCall Tryz.prog 156 [strV k] (.p (.k .u64 (pointF k:Int))):=by
 refine pcall_of Tryz.func156 rfl (fun w0 F S0 M0=>?_)
 haveI:∀ ex,PC Tryz.prog 178 [bytesN k ex] True (.p (.k .u64 (pointF k:Int))):=fun ex=>⟨fun _=>shaPoint_w k ex (by omega)⟩
 as_aux_lemma=>
  repeat' (first|refine jx5 ?_|refine jy0 ?_ ?_|exact spF|refine spQ fun hq hq'=>?_|refine spN fun hn=>?_|fail)
  exact rt1 rfl rfl finS_p rfl
theorem keyAt_w (k:List Nat) (hk:okB k) (hl:k.length≤1000000):PCall Tryz.prog 123 [strV k] (.tup [.one (.p (.i (partF k:Int))),.one (.p (.i (leafF k:Int)))]):=by
 refine pcall_of Tryz.func123 rfl (fun w0 F S0 M0=>?_)
 have hp:=point_lt k
 unfold partF leafF
 obtain ⟨p,hP⟩:∃ p,p=pointF k:=⟨_,rfl⟩
 haveI:PC Tryz.prog 156 [strV k] True (.p (.k .u64 (p:Int))):=⟨fun _=>by rw [hP];exact keyPoint_w k hk hl⟩
 rw [← hP] at hp ⊢
 have e1:IntKind.i64.wrap ((p / 2 ^ (61:Int).toNat:Nat):Int)=((p / 2305843009213693952:Nat):Int):=by
  rw [show p / 2 ^ (61:Int).toNat=p / 2305843009213693952 from rfl]
  exact IntWalk.i64_in _ (by omega)
 have e2:IntKind.i64.wrap ((p / 2 ^ (57:Int).toNat % md .u64&&& 15 % md .u64:Nat):Int)=((p / 144115188075855872 % 16:Nat):Int):=by
  have h1:p / 2 ^ (57:Int).toNat % md .u64=p / 144115188075855872:=Nat.mod_eq_of_lt (show p / 144115188075855872 < 18446744073709551616 by omega)
  have h2:15 % md .u64=2 ^ 4 - 1:=rfl
  rw [h1,h2,Nat.and_two_pow_sub_one_eq_mod]
  exact IntWalk.i64_in _ (by omega)
 rw [← e1,← e2]
 as_aux_lemma=>
  repeat' (first|refine jx5 ?_|refine jy0 ?_ ?_|exact spF|refine spQ fun hq hq'=>?_|refine spN fun hn=>?_|fail)
  exact rt2 rfl rfl finS_p rfl finS_p rfl
instance keyAt_i {k:List Nat}:PC Tryz.prog 123 [strV k] (okB k∧k.length≤1000000) (.tup [.one (.p (.i (partF k:Int))),.one (.p (.i (leafF k:Int)))]):=⟨fun h=>keyAt_w k h.1 h.2⟩
theorem keyPart_w (k:List Nat) (hk:okB k) (hl:k.length≤1000000):PCall Tryz.prog 115 [strV k] (.p (.i (partF k:Int))):=by
 refine pcall_of Tryz.func115 rfl (fun w0 F S0 M0=>?_)
 as_aux_lemma=>
  repeat' (first|refine jx5 ?_|refine jy0 ?_ ?_|exact spF|refine spQ fun hq hq'=>?_|refine spN fun hn=>?_|fail)
  exact rt1 rfl rfl finS_p rfl
end Go.Proofs.YtkgploeegbmofaaGreat.Rg
