/- packs: a key's cart found -/
import Derived.Test.YtkgploeegbmofaaGreatSEA15
namespace Go.Proofs.YtkgploeegbmofaaGreat.Wi
open Go Go.RowKit Go.Aw Go.Aw.Cart Go.Proofs.YtkgploeegbmofaaGreat.Ca
set_option linter.unusedVariables false
set_option linter.unusedSimpArgs false
set_option maxRecDepth 8000
set_option maxHeartbeats 4000000
abbrev kV (k:Kd):AV:=.a (kL k)
def idxK (p:Kd→Bool) (l:List Kd) (k:Nat):Nat→Int
 | 0 => -1
 | n+1=>if p (l.getD k default)=true then k else idxK p l (k+1) n
theorem idxK_found {p:Kd→Bool} {l:List Kd}:∀ (n k:Nat),k+n=l.length→(idxK p l k n = -1∧∀ i,k≤i→i < l.length→p (l.getD i default)=false)∨∃ i0:Nat,idxK p l k n=i0∧k≤i0∧i0 < l.length∧p (l.getD i0 default)=true∧∀ i,k≤i→i < i0→p (l.getD i default)=false
 | 0,k,h=>.inl ⟨rfl,fun i h1 h2=>by omega⟩
 | n+1,k,h=>by
  rw [idxK]
  by_cases hp:p (l.getD k default)=true
  ·rw [if_pos hp];exact .inr ⟨k,rfl,Nat.le_refl _,by omega,hp,fun i h1 h2=>by omega⟩
  ·rw [if_neg hp]
   have hp':=Bool.eq_false_iff.2 hp
   rcases idxK_found (p:=p) (l:=l) n (k+1) (by omega) with ⟨h1,h2⟩ | ⟨i0,h1,h2,h3,h4,h5⟩
   ·refine .inl ⟨h1,fun i a b=>?_⟩
    by_cases e:i=k
    ·rw [e];exact hp'
    ·exact h2 i (by omega) b
   ·refine .inr ⟨i0,h1,by omega,h3,h4,fun i a b=>?_⟩
    by_cases e:i=k
    ·rw [e];exact hp'
    ·exact h5 i (by omega) b
namespace WC
theorem lopC {C:Ctx} {o:Oper} {σ:St} {e:Eff} {ro:Nat→Bool} (h:LOp C o σ e ro:=by
  first|(apply lop_callv1;(focus rfl);(focus rfl);(focus assumption);(focus first|exact lk_o rfl|exact lk_a rfl);(focus exact inferInstance);(focus exact inferInstance);(focus exact True.intro);(focus rfl))|(apply gBin;(focus rfl);apply lop_eqs;(focus rfl);(focus exact inferInstance);(focus rfl);(focus rfl);(focus assumption);(focus assumption);(focus rfl))|exact W9.lopC|fail):LOp C o σ e ro:=h
section steps
variable {C:Ctx} {ops:Array Oper} {o:Oper} {rest:List Oper} {K:St→Prop} {σ:St} {e:Eff} {ro:Nat→Bool} {W:List (Nat × Nat)} {i:Nat}
theorem rnC {d:Nat} (hg:Guard ops σ o true:=by first|exact gd_n rfl rfl|exact gd_t rfl rfl rfl rfl|exact gd_t rfl rfl rfl (by assumption)) (hd:o.dst=some d:=by rfl) (h:LOp C o σ e ro:=by exact lopC) (hk:RunN C ops rest K (e.app (some d) σ)):RunN C ops (o::rest) K σ:=rn_any hg hd h hk
end steps
end WC
open WC
theorem indexFuncK_w (f:FuncId) (caps:List PVal) (hf:FnT Tryz.prog f) (p:Kd→Bool) (l:List Kd) (ex:Bool) (h:l.length≤1000000000) (hp:∀ e∈l,PCall Tryz.prog f ([kV e]++caps.map .p) (.p (.b (p e)))):PCall Tryz.prog 140 [.p (.sl 10 (l.map kR) ex),.p (.fnv f caps)] (.p (.i (idxK p l 0 l.length))):=by
 refine pcall_of Tryz.func140 rfl (fun w0 F S0 M0=>?_)
 obtain ⟨A,hA⟩:∃ A,A=idxK p l 0 l.length:=⟨_,rfl⟩
 rw [← hA]
 repeat' (first|refine jx5 ?_|refine jy0 ?_ ?_|exact spF|refine spQ fun hq hq'=>?_|refine spN fun hn=>?_|fail)
 refine aws_loopS [4,5,8,9,10,11,12,13,14,15,16,17,18] [] (fun (i:Nat)=>[(8,.p (.i i))]) (fun _=>[]) (fun i=>i≤l.length∧A=idxK p l i (l.length - i)) (fun i=>l.length - i) 0 ⟨Nat.zero_le _,hA⟩ (by exact knA) (by exact knA) ?_
 rintro i β γ ⟨hi,hx⟩
 by_cases hil:i < l.length
 ·have hlt:decide ((i:Int) < l.length)=true:=decide_eq_true (by omega)
  rw [show l.length - i=(l.length - (i+1))+1 by omega,idxK] at hx
  haveI:PC Tryz.prog f ([kV (l.getD (i:Int).toNat default)]++caps.map .p) True (.p (.b (p (l.getD (i:Int).toNat default)))):=⟨fun _=>hp _ (by rw [Int.toNat_natCast,getD_at hil];exact List.getElem_mem _)⟩
  cases hv:p (l.getD (i:Int).toNat default) with
  | true=>
   have hv':=hv
   rw [Int.toNat_natCast] at hv'
   rw [if_pos hv'] at hx
   rw [hx]
   as_aux_lemma=>
    repeat' (first|refine jx5 ?_|refine jy0 ?_ ?_|exact spF|refine spQ fun hq hq'=>?_|refine spN fun hn=>?_|fail)
    exact rt1 rfl rfl finS_p rfl
  | false=>
   have hv':=hv
   rw [Int.toNat_natCast] at hv'
   rw [if_neg (by rw [hv'];simp)] at hx
   as_aux_lemma=>
    repeat' (first|refine jx5 ?_|refine jy0 ?_ ?_|exact spF|refine spQ fun hq hq'=>?_|refine spN fun hn=>?_|fail)
    exact ⟨i+1,_,by omega,⟨by omega,hx⟩,.refl,by exact frA⟩
 ·have hlt:decide ((i:Int) < l.length)=false:=decide_eq_false (by omega)
  rw [show l.length - i=0 by omega,idxK] at hx
  rw [hx]
  as_aux_lemma=>
   repeat' (first|refine jx5 ?_|refine jy0 ?_ ?_|exact spF|refine spQ fun hq hq'=>?_|refine spN fun hn=>?_|fail)
   exact rt1 rfl rfl finS_p rfl
theorem with1_w (e:Kd) (key:List Nat) (h1:okB e.1) (h2:okB key):PCall Tryz.prog 141 ([kV e]++[PVal.bx [.v (.string (strOf key))] 0].map .p) (.p (.b (bLt key e.1))):=by
 refine pcall_of Tryz.func141 rfl (fun w0 F S0 M0=>?_)
 as_aux_lemma=>
  repeat' (first|refine jx5 ?_|refine jy0 ?_ ?_|exact spF|refine spQ fun hq hq'=>?_|refine spN fun hn=>?_|fail)
  exact rt1 rfl rfl finS_p rfl
end Go.Proofs.YtkgploeegbmofaaGreat.Wi
