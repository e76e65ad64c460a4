/- the reference, chapters 03 and 06: dots, nodes, how entries stand to each other -/
import Derived.Test.YtkgploeegbmofaaGreatOVA06
import Derived.Test.YtkgploeegbmofaaGreatOVA10
import Derived.Test.YtkgploeegbmofaaGreatOVA01
namespace Go.Proofs.YtkgploeegbmofaaGreat.Cr
open Go Go.RowKit Go.Aw Go.Aw.Cart Go.Aw.Ord Go.Proofs.YtkgploeegbmofaaGreat.Ca
set_option linter.unusedVariables false
set_option linter.unusedSimpArgs false
set_option maxRecDepth 8000
set_option maxHeartbeats 4000000
theorem dotR_r (d:Dot):PCall Tryz.prog 202 [dV d] (.p (.b (dotF d))):=by
 refine pcall_of Tryz.func202 rfl (fun w0 F S0 M0=>?_)
 unfold dotF
 repeat' (first|refine jx2 ?_|refine jy0 ?_ ?_|exact spF|refine spQ fun hq hq'=>?_|refine spN fun hn=>?_|fail)
 all_goals refine rt1 rfl rfl finS_p (rb ?_)
 all_goals first|exact decide_eq_decide.2 (by omega)|exact decide_eq_true (by omega)|exact decide_eq_false (by omega)
instance {d:Dot}:PC Tryz.prog 202 [dV d] True (.p (.b (dotF d))):=⟨fun _=>dotR_r d⟩
theorem get_r (v:List Int) (n:Int) (hv:v.length=8):PCall Tryz.prog 203 [vV v,.p (.i n)] (.p (.k .u64 (getF v n))):=by
 refine pcall_of Tryz.func203 rfl (fun w0 F S0 M0=>?_)
 repeat' (first|refine jx2 ?_|refine jy0 ?_ ?_|exact spF|refine spQ fun hq hq'=>?_|refine spN fun hn=>?_|fail)
 refine aws_loopS [4,5,6,7,8,9,10,11,12,13,14,15,16] [] (fun (i:Nat)=>[(5,.p (.i i))]) (fun _=>[]) (fun i=>i≤8∧∀ j:Nat,j < i→(j:Int)+1≠n) (fun i=>8 - i) 0 ⟨Nat.zero_le _,fun j hj=>absurd hj (Nat.not_lt_zero _)⟩ (by exact knA) (by exact knA) ?_
 rintro i β γ ⟨hi,hx⟩
 by_cases h8:i < 8
 ·have d1:decide ((i:Int) < 8)=true:=decide_eq_true (by omega)
  by_cases hn:(i:Int)+1=n
  ·have d2:decide ((i:Int)+1=n)=true:=decide_eq_true hn
   have e:getF v n=v.getD (i:Int).toNat default:=by
    unfold getF
    rw [if_pos (by omega)]
    congr 1
    omega
   rw [e]
   repeat' (first|refine jx2 ?_|refine jy0 ?_ ?_|exact spF|refine spQ fun hq hq'=>?_|refine spN fun hn=>?_|fail)
   exact rt1 rfl rfl finS_p rfl
  ·have d2:decide ((i:Int)+1=n)=false:=decide_eq_false hn
   repeat' (first|refine jx2 ?_|refine jy0 ?_ ?_|exact spF|refine spQ fun hq hq'=>?_|refine spN fun hn=>?_|fail)
   refine ⟨i+1,_,by omega,⟨by omega,fun j hj=>?_⟩,.refl,by exact frA⟩
   by_cases e:j=i
   ·rw [e];exact hn
   ·exact hx j (by omega)
 ·have d1:decide ((i:Int) < 8)=false:=decide_eq_false (by omega)
  have e:getF v n=0:=by
   unfold getF
   rw [if_neg]
   intro k
   exact hx (n - 1).toNat (by omega) (by omega)
  rw [e]
  repeat' (first|refine jx2 ?_|refine jy0 ?_ ?_|exact spF|refine spQ fun hq hq'=>?_|refine spN fun hn=>?_|fail)
  exact rt1 rfl rfl finS_p rfl
instance {v:List Int} {n:Int}:PC Tryz.prog 203 [vV v,.p (.i n)] (v.length=8) (.p (.k .u64 (getF v n))):=⟨get_r v n⟩
theorem has_r (v:List Int) (d:Dot) (hv:v.length=8):PCall Tryz.prog 193 [vV v,dV d] (.p (.b (hasF v d))):=by
 refine pcall_of Tryz.func193 rfl (fun w0 F S0 M0=>?_)
 unfold hasF
 cases h:dotF d with
 | true=>
  repeat' (first|refine jx2 ?_|refine jy0 ?_ ?_|exact spF|refine spQ fun hq hq'=>?_|refine spN fun hn=>?_|fail)
  exact rt1 rfl rfl finS_p rfl
 | false=>
  repeat' (first|refine jx2 ?_|refine jy0 ?_ ?_|exact spF|refine spQ fun hq hq'=>?_|refine spN fun hn=>?_|fail)
  exact rt1 rfl rfl finS_p rfl
instance {v:List Int} {d:Dot}:PC Tryz.prog 193 [vV v,dV d] (v.length=8) (.p (.b (hasF v d))):=⟨has_r v d⟩
theorem lessD_r (a b:Dot):PCall Tryz.prog 204 [dV a,dV b] (.p (.b (decide (ltD a b)))):=by
 refine pcall_of Tryz.func204 rfl (fun w0 F S0 M0=>?_)
 unfold ltD
 repeat' (first|refine jx2 ?_|refine jy0 ?_ ?_|exact spF|refine spQ fun hq hq'=>?_|refine spN fun hn=>?_|fail)
 all_goals refine rt1 rfl rfl finS_p (rb ?_)
 all_goals first|exact decide_eq_decide.2 (by omega)|exact decide_eq_true (by omega)|exact decide_eq_false (by omega)
instance {a b:Dot}:PC Tryz.prog 204 [dV a,dV b] True (.p (.b (decide (ltD a b)))):=⟨fun _=>lessD_r a b⟩
theorem dot_r (e:Ent):PCall Tryz.prog 194 [eV e] (dV (dotE e)):=by
 refine pcall_of Tryz.func194 rfl (fun w0 F S0 M0=>?_)
 repeat' (first|refine jx2 ?_|refine jy0 ?_ ?_|exact spF|refine spQ fun hq hq'=>?_|refine spN fun hn=>?_|fail)
 exact rc1 rfl rfl rfl rfl rfl rfl finL_p rfl
instance {e:Ent}:PC Tryz.prog 194 [eV e] True (dV (dotE e)):=⟨fun _=>dot_r e⟩
theorem lessE_r (a b:Ent):PCall Tryz.prog 195 [eV a,eV b] (.p (.b (decide (ltE a b)))):=by
 refine pcall_of Tryz.func195 rfl (fun w0 F S0 M0=>?_)
 have hd:=vEqD (dotE a) (dotE b)
 by_cases h1:a.1=b.1
 ·have d1:decide (a.1≠b.1)=false:=decide_eq_false fun q=>q h1
  by_cases h2:dotE a=dotE b
  ·rw [decide_eq_true h2] at hd
   have d2:(!vEqB [.int .i64 (dotE a).1,.int .u64 (dotE a).2] [.int .i64 (dotE b).1,.int .u64 (dotE b).2])=false:=by rw [hd];rfl
   have e:decide (ltE a b)=decide (a.2.2.2 < b.2.2.2):=decide_eq_decide.2 (by unfold ltE;unfold dotE at h2;simp only [Prod.mk.injEq] at h2;omega)
   rw [e]
   repeat' (first|refine jx2 ?_|refine jy0 ?_ ?_|exact spF|refine spQ fun hq hq'=>?_|refine spN fun hn=>?_|fail)
   exact rt1 rfl rfl finS_p rfl
  ·rw [decide_eq_false h2] at hd
   have d2:(!vEqB [.int .i64 (dotE a).1,.int .u64 (dotE a).2] [.int .i64 (dotE b).1,.int .u64 (dotE b).2])=true:=by rw [hd];rfl
   have e:decide (ltE a b)=decide (ltD (dotE a) (dotE b)):=decide_eq_decide.2 (by unfold ltE ltD;unfold dotE at *;simp only [Prod.mk.injEq] at h2 ⊢;omega)
   rw [e]
   repeat' (first|refine jx2 ?_|refine jy0 ?_ ?_|exact spF|refine spQ fun hq hq'=>?_|refine spN fun hn=>?_|fail)
   exact rt1 rfl rfl finS_p rfl
 ·have d1:decide (a.1≠b.1)=true:=decide_eq_true h1
  have e:decide (ltE a b)=decide (a.1 < b.1):=decide_eq_decide.2 (by unfold ltE;omega)
  rw [e]
  repeat' (first|refine jx2 ?_|refine jy0 ?_ ?_|exact spF|refine spQ fun hq hq'=>?_|refine spN fun hn=>?_|fail)
  exact rt1 rfl rfl finS_p rfl
instance {a b:Ent}:PC Tryz.prog 195 [eV a,eV b] True (.p (.b (decide (ltE a b)))):=⟨fun _=>lessE_r a b⟩
end Go.Proofs.YtkgploeegbmofaaGreat.Cr
namespace Go.Proofs.YtkgploeegbmofaaGreat.Rg
open Go Go.RowKit Go.Aw Go.Aw.Sha Go.Aw.Cart Go.Aw.Ord Go.Sort Go.Proofs.YtkgploeegbmofaaGreat.Ca Go.Proofs.YtkgploeegbmofaaGreat.Sh
set_option linter.unusedVariables false
set_option linter.unusedSimpArgs false
set_option maxRecDepth 8000
set_option maxHeartbeats 4000000
attribute [local irreducible] sum
abbrev strV (k:List Nat):AV:=.p (.v (.string (strOf k)))
def byteOk (c:Nat):Bool:=decide ((97≤c∧c≤122)∨(48≤c∧c≤57)∨c=45)
def keyR (k:List Nat):Bool:=decide ((1≤k.length∧k.length≤20)∧∀ c∈k,byteOk c=true)
def partF (k:List Nat):Nat:=pointF k / 2305843009213693952
def leafF (k:List Nat):Nat:=pointF k / 144115188075855872 % 16
theorem point_lt (k:List Nat):pointF k < 18446744073709551616:=pv_fit (sum_okB k) (Nat.le_refl 8)
theorem part_top (k:List Nat):(sum k).getD 0 default / 32=partF k:=by
 unfold partF pointF
 have h:=fun j=>getD_ok (sum_okB k) j
 have h0:=h 0;have h1:=h 1;have h2:=h 2;have h3:=h 3;have h4:=h 4;have h5:=h 5;have h6:=h 6;have h7:=h 7
 simp only [pv]
 omega
theorem all_get {k:List Nat}:(∀ c∈k,byteOk c=true)↔∀ j,j < k.length→byteOk (k.getD j default)=true:=by
 constructor
 ·intro h j hj
  exact h _ (by rw [getD_at hj];exact List.getElem_mem _)
 ·intro h c hc
  obtain ⟨j,hj,rfl⟩:=getD_mem hc
  exact h j hj
namespace Y1
theorem lopC {C:Ctx} {o:Oper} {σ:St} {e:Eff} {ro:Nat→Bool} (h:LOp C o σ e ro:=by
  first|(apply lop_len_sb;(focus rfl);(focus exact inferInstance);(focus rfl);(focus rfl))|(apply lop_ix_sb;(focus rfl);(focus exact inferInstance);(focus rfl);(focus assumption);(focus rfl);(focus omega);(focus omega);(focus rfl))|exact P6.lopC|fail):LOp C o σ e ro:=h
section steps
variable {C:Ctx} {ops:Array Oper} {o:Oper} {rest:List Oper} {K:St→Prop} {σ:St} {e:Eff} {ro:Nat→Bool} {W:List (Nat × Nat)} {i:Nat}
theorem rnC {d:Nat} (hg:Guard ops σ o true:=by first|exact gd_n rfl rfl|exact gd_t rfl rfl rfl rfl|exact gd_t rfl rfl rfl (by assumption)) (hd:o.dst=some d:=by rfl) (h:LOp C o σ e ro:=by exact lopC) (hk:RunN C ops rest K (e.app (some d) σ)):RunN C ops (o::rest) K σ:=rn_any hg hd h hk
end steps
end Y1
open Y1
theorem isByte_w (c:Nat):PCall Tryz.prog 118 [.p (.k .u8 (c:Int))] (.p (.b (byteOk c))):=by
 refine pcall_of Tryz.func118 rfl (fun w0 F S0 M0=>?_)
 unfold byteOk
 as_aux_lemma=>
  repeat' (first|refine jx6 ?_|refine jy0 ?_ ?_|exact spF|refine spQ fun hq hq'=>?_|refine spN fun hn=>?_|fail)
  all_goals refine rt1 rfl rfl finS_p (rb ?_)
  all_goals first|exact decide_eq_decide.2 (by omega)|exact decide_eq_true (by omega)|exact decide_eq_false (by omega)
instance isByte_i {c:Nat}:PC Tryz.prog 118 [.p (.k .u8 (c:Int))] True (.p (.b (byteOk c))):=⟨fun _=>isByte_w c⟩
theorem keyRightL_w (k:List Nat) (hk:okB k) (hl:k.length≤9223372036854775807):PCall Tryz.prog 73 [strV k] (.p (.b (keyR k))):=by
 refine pcall_of Tryz.func73 rfl (fun w0 F S0 M0=>?_)
 unfold keyR
 rw [decide_eq_decide.2 (and_congr Iff.rfl all_get)]
 repeat' (first|refine jx5 ?_|refine jy0 ?_ ?_|exact spF|refine spQ fun hq hq'=>?_|refine spN fun hn=>?_|fail)
 refine aws_loopS [2,3,6,7,8,9,10,11,12,13,14,15,16,17,18] [] (fun (i:Nat)=>[(6,.p (.i i))]) (fun _=>[]) (fun i=>i≤k.length∧i≤20∧∀ j,j < i→byteOk (k.getD j default)=true) (fun i=>k.length - i) 0 ⟨Nat.zero_le _,Nat.zero_le _,fun j hj=>absurd hj (Nat.not_lt_zero _)⟩ (by exact knA) (by exact knA) ?_
 rintro i β γ ⟨hi,hi2,hx⟩
 by_cases hil:i < k.length
 ·have d1:decide ((i:Int) < (k.length:Int))=true:=decide_eq_true (by omega)
  have ei:(i:Int).toNat=i:=Int.toNat_natCast i
  by_cases h20:20≤i
  ·have d2:decide (20≤(i:Int))=true:=decide_eq_true (by omega)
   rw [decide_eq_false (fun q=>by omega)]
   as_aux_lemma=>
    repeat' (first|refine jx5 ?_|refine jy0 ?_ ?_|exact spF|refine spQ fun hq hq'=>?_|refine spN fun hn=>?_|fail)
    exact rt1 rfl rfl finS_p rfl
  ·have d2:decide (20≤(i:Int))=false:=decide_eq_false (by omega)
   cases hb:byteOk (k.getD (i:Int).toNat default) with
   | true=>
    have d3:(!byteOk (k.getD (i:Int).toNat default))=false:=by rw [hb];rfl
    rw [ei] at hb
    repeat' (first|refine jx5 ?_|refine jy0 ?_ ?_|exact spF|refine spQ fun hq hq'=>?_|refine spN fun hn=>?_|fail)
    refine ⟨i+1,_,by omega,⟨by omega,by omega,fun j hj=>?_⟩,.refl,by exact frA⟩
    by_cases e:j=i
    ·rw [e];exact hb
    ·exact hx j (by omega)
   | false=>
    have d3:(!byteOk (k.getD (i:Int).toNat default))=true:=by rw [hb];rfl
    rw [ei] at hb
    rw [decide_eq_false (fun q=>by have:=q.2 i hil;rw [hb] at this;cases this)]
    as_aux_lemma=>
     repeat' (first|refine jx5 ?_|refine jy0 ?_ ?_|exact spF|refine spQ fun hq hq'=>?_|refine spN fun hn=>?_|fail)
     exact rt1 rfl rfl finS_p rfl
 ·have d1:decide ((i:Int) < (k.length:Int))=false:=decide_eq_false (by omega)
  rw [decide_eq_decide.2 (show ((1≤k.length∧k.length≤20)∧∀ j,j < k.length→byteOk (k.getD j default)=true)↔0 < (k.length:Int) from ⟨fun q=>by omega,fun q=>⟨by omega,fun j hj=>hx j (by omega)⟩⟩)]
  as_aux_lemma=>
   repeat' (first|refine jx5 ?_|refine jy0 ?_ ?_|exact spF|refine spQ fun hq hq'=>?_|refine spN fun hn=>?_|fail)
   exact rt1 rfl rfl finS_p rfl
theorem keyRight_w (k:List Nat) (hk:okB k) (hl:k.length≤1000000):PCall Tryz.prog 73 [strV k] (.p (.b (keyR k))):=keyRightL_w k hk (by omega)
theorem keyPoint_w (k:List Nat) (hk:okB k) (hl:k.length≤1000000):PCall Tryz.prog 156 [strV k] (.p (.k .u64 (pointF k:Int))):=by
 refine pcall_of Tryz.func156 rfl (fun w0 F S0 M0=>?_)
 haveI:∀ ex,PC Tryz.prog 178 [bytesN k ex] True (.p (.k .u64 (pointF k:Int))):=fun ex=>⟨fun _=>shaPoint_w k ex (by omega)⟩
 as_aux_lemma=>
  repeat' (first|refine jx5 ?_|refine jy0 ?_ ?_|exact spF|refine spQ fun hq hq'=>?_|refine spN fun hn=>?_|fail)
  exact rt1 rfl rfl finS_p rfl
theorem keyAt_w (k:List Nat) (hk:okB k) (hl:k.length≤1000000):PCall Tryz.prog 123 [strV k] (.tup [.one (.p (.i (partF k:Int))),.one (.p (.i (leafF k:Int)))]):=by
 refine pcall_of Tryz.func123 rfl (fun w0 F S0 M0=>?_)
 have hp:=point_lt k
 unfold partF leafF
 obtain ⟨p,hP⟩:∃ p,p=pointF k:=⟨_,rfl⟩
 haveI:PC Tryz.prog 156 [strV k] True (.p (.k .u64 (p:Int))):=⟨fun _=>by rw [hP];exact keyPoint_w k hk hl⟩
 rw [← hP] at hp ⊢
 have e1:IntKind.i64.wrap ((p / 2 ^ (61:Int).toNat:Nat):Int)=((p / 2305843009213693952:Nat):Int):=by
  rw [show p / 2 ^ (61:Int).toNat=p / 2305843009213693952 from rfl]
  exact IntWalk.i64_in _ (by omega)
 have e2:IntKind.i64.wrap ((p / 2 ^ (57:Int).toNat % md .u64&&& 15 % md .u64:Nat):Int)=((p / 144115188075855872 % 16:Nat):Int):=by
  have h1:p / 2 ^ (57:Int).toNat % md .u64=p / 144115188075855872:=Nat.mod_eq_of_lt (show p / 144115188075855872 < 18446744073709551616 by omega)
  have h2:15 % md .u64=2 ^ 4 - 1:=rfl
  rw [h1,h2,Nat.and_two_pow_sub_one_eq_mod]
  exact IntWalk.i64_in _ (by omega)
 rw [← e1,← e2]
 as_aux_lemma=>
  repeat' (first|refine jx5 ?_|refine jy0 ?_ ?_|exact spF|refine spQ fun hq hq'=>?_|refine spN fun hn=>?_|fail)
  exact rt2 rfl rfl finS_p rfl finS_p rfl
instance keyAt_i {k:List Nat}:PC Tryz.prog 123 [strV k] (okB k∧k.length≤1000000) (.tup [.one (.p (.i (partF k:Int))),.one (.p (.i (leafF k:Int)))]):=⟨fun h=>keyAt_w k h.1 h.2⟩
theorem keyPart_w (k:List Nat) (hk:okB k) (hl:k.length≤1000000):PCall Tryz.prog 115 [strV k] (.p (.i (partF k:Int))):=by
 refine pcall_of Tryz.func115 rfl (fun w0 F S0 M0=>?_)
 as_aux_lemma=>
  repeat' (first|refine jx5 ?_|refine jy0 ?_ ?_|exact spF|refine spQ fun hq hq'=>?_|refine spN fun hn=>?_|fail)
  exact rt1 rfl rfl finS_p rfl
end Go.Proofs.YtkgploeegbmofaaGreat.Rg
namespace Go.Proofs.YtkgploeegbmofaaGreat.Tr
open Go Go.RowKit Go.Aw Go.Aw.Sha Go.Aw.Tree Go.Proofs.YtkgploeegbmofaaGreat.Sh
set_option linter.unusedVariables false
set_option linter.unusedSimpArgs false
set_option maxRecDepth 8000
abbrev ints (l:List Int) (ex:Bool):AV:=.p (.sl 1 (l.map fun n=>[PVal.i n]) ex)
theorem isPlace_c (p:Int):PCall Tryz.prog 119 [.p (.i p)] (.p (.b (plc p))):=by
 refine pcall_of Tryz.func119 rfl (fun w0 F S0 M0=>?_)
 repeat' (first|refine jx12 ?_|refine jy0 ?_ ?_|exact spF|refine spQ fun hq hq'=>?_|refine spN fun hn=>?_|fail)
 all_goals (refine rt1 rfl rfl finS_p ?_;simp [plc, *];try omega)
instance {p:Int}:PC Tryz.prog 119 [.p (.i p)] True (.p (.b (plc p))):=⟨fun _=>isPlace_c p⟩
theorem plc_cases (p:Int):(plc p=true∧(0≤p∧p < 21)∧(!plc p)=false)∨(plc p=false∧¬ (0≤p∧p < 21)∧(!plc p)=true):=by
 by_cases h:0≤p∧p < 21
 ·have:plc p=true:=by simp [plc,h]
  exact .inl ⟨this,h,by rw [this];rfl⟩
 ·have:plc p=false:=decide_eq_false h
  exact .inr ⟨this,h,by rw [this];rfl⟩
theorem leafOf_c (p:Int):PCall Tryz.prog 77 [.p (.i p)] (.p (.i (leafOf p))):=by
 refine pcall_of Tryz.func77 rfl (fun w0 F S0 M0=>?_)
 rcases plc_cases p with ⟨h0,h1,h0'⟩ | ⟨h0,h1,h0'⟩
 all_goals repeat' (first|refine jx12 ?_|refine jy0 ?_ ?_|exact spF|refine spQ fun hq hq'=>?_|refine spN fun hn=>?_|fail)
 all_goals first|(refine rt1 rfl rfl finS_p ?_;unfold leafOf;split<;>first|rfl|(exfalso;omega))|(exfalso;simp_all;done)
instance {p:Int}:PC Tryz.prog 77 [.p (.i p)] True (.p (.i (leafOf p))):=⟨fun _=>leafOf_c p⟩
theorem up_c (p:Int):PCall Tryz.prog 138 [.p (.i p)] (.p (.i (upF p))):=by
 refine pcall_of Tryz.func138 rfl (fun w0 F S0 M0=>?_)
 rcases plc_cases p with ⟨h0,h1,h0'⟩ | ⟨h0,h1,h0'⟩
 all_goals repeat' (first|refine jx12 ?_|refine jy0 ?_ ?_|exact spF|refine spQ fun hq hq'=>?_|refine spN fun hn=>?_|fail)
 all_goals first|(refine rt1 rfl rfl finS_p ?_;unfold upF;split<;>first|rfl|(exfalso;omega))|(exfalso;simp_all;done)
instance {p:Int}:PC Tryz.prog 138 [.p (.i p)] True (.p (.i (upF p))):=⟨fun _=>up_c p⟩
theorem level_c (p:Int):PCall Tryz.prog 98 [.p (.i p)] (.p (.i (levelF p))):=by
 refine pcall_of Tryz.func98 rfl (fun w0 F S0 M0=>?_)
 repeat' (first|refine jx12 ?_|refine jy0 ?_ ?_|exact spF|refine spQ fun hq hq'=>?_|refine spN fun hn=>?_|fail)
 have hb:=levelF_in p
 refine aws_loopF [3,4,6,7,8,9,10,11] [] (fun (x:Int × Int)=>[(3,.p (.i x.1)),(4,.p (.i x.2))]) (fun _=>[]) (fun x=>levelF p=x.1+1+levelF x.2 ∧ -1≤x.1) (fun x=>(x.2+1).toNat) (-1,p) ⟨by simp,by simp⟩ (by exact knA) (by exact knA) ?_
 rintro ⟨n,q⟩ β γ ⟨h1,h2⟩
 simp only at h1 h2
 have hq1:=levelF_in q
 dsimp only
 rcases plc_cases q with ⟨h0,h3,_⟩ | ⟨h0,h3,_⟩
 ·have:=levelF_up h0
  repeat' (first|refine jx12 ?_|refine jy0 ?_ ?_|exact spF|refine spQ fun hq hq'=>?_|refine spN fun hn=>?_|fail)
  exact ⟨(n+1,upF q),upF_lt h0,⟨by dsimp only;omega,by dsimp only;omega⟩,by exact frA⟩
 ·have:=levelF_out h0
  repeat' (first|refine jx12 ?_|refine jy0 ?_ ?_|exact spF|refine spQ fun hq hq'=>?_|refine spN fun hn=>?_|fail)
  refine rt1 rfl rfl finS_p (ri ?_);omega
instance {p:Int}:PC Tryz.prog 98 [.p (.i p)] True (.p (.i (levelF p))):=⟨fun _=>level_c p⟩
theorem rlevel_c (p:Int):PCall Tryz.prog 179 [.p (.i p)] (.p (.i (levelF p))):=by
 refine pcall_of Tryz.func179 rfl (fun w0 F S0 M0=>?_)
 repeat' (first|refine jx12 ?_|refine jy0 ?_ ?_|exact spF|refine spQ fun hq hq'=>?_|refine spN fun hn=>?_|fail)
 all_goals first|(refine rt1 rfl rfl finS_p (ri ?_);unfold levelF;(repeat' split)<;>first|rfl|(exfalso;omega))|(exfalso;simp_all;omega)
instance {p:Int}:PC Tryz.prog 179 [.p (.i p)] True (.p (.i (levelF p))):=⟨fun _=>rlevel_c p⟩
end Go.Proofs.YtkgploeegbmofaaGreat.Tr
