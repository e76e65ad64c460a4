/- packs: a key's cart found -/
import Derived.Test.YtpgppgehhclfoaaGreatOBB49
import Derived.Test.YtpgppgehhclfoaaGreatOBB73
import Derived.Test.YtpgppgehhclfoaaGreatOBB86
namespace Go.Proofs.YtpgppgehhclfoaaGreat.Wi
open Go Go.RowKit Go.Aw Go.Aw.Cart Go.Proofs.YtpgppgehhclfoaaGreat.Ca
set_option linter.unusedVariables false
set_option linter.unusedSimpArgs false
set_option maxRecDepth 8000
set_option maxHeartbeats 4000000
abbrev kV (k:Kd):AV:=.a (kL k)
def idxK (p:Kd→Bool) (l:List Kd) (k:Nat):Nat→Int
 | 0 => -1
 | n+1=>if p (l.getD k default)=true then k else idxK p l (k+1) n
theorem idxK_found {p:Kd→Bool} {l:List Kd}:∀ (n k:Nat),k+n=l.length→(idxK p l k n = -1∧∀ i,k≤i→i < l.length→p (l.getD i default)=false)∨∃ i0:Nat,idxK p l k n=i0∧k≤i0∧i0 < l.length∧p (l.getD i0 default)=true∧∀ i,k≤i→i < i0→p (l.getD i default)=false
 | 0,k,h=>.inl ⟨rfl,fun i h1 h2=>by omega⟩
 | n+1,k,h=>by
  rw [idxK]
  by_cases hp:p (l.getD k default)=true
  ·rw [if_pos hp];exact .inr ⟨k,rfl,Nat.le_refl _,by omega,hp,fun i h1 h2=>by omega⟩
  ·rw [if_neg hp]
   have hp':=Bool.eq_false_iff.2 hp
   rcases idxK_found (p:=p) (l:=l) n (k+1) (by omega) with ⟨h1,h2⟩ | ⟨i0,h1,h2,h3,h4,h5⟩
   ·refine .inl ⟨h1,fun i a b=>?_⟩
    by_cases e:i=k
    ·rw [e];exact hp'
    ·exact h2 i (by omega) b
   ·refine .inr ⟨i0,h1,by omega,h3,h4,fun i a b=>?_⟩
    by_cases e:i=k
    ·rw [e];exact hp'
    ·exact h5 i (by omega) b
namespace WC
theorem lopC {C:Ctx} {o:Oper} {σ:St} {e:Eff} {ro:Nat→Bool} (h:LOp C o σ e ro:=by
  first|(apply lop_callv1;(focus rfl);(focus rfl);(focus assumption);(focus first|exact lk_o rfl|exact lk_a rfl);(focus exact inferInstance);(focus exact inferInstance);(focus exact True.intro);(focus rfl))|(apply gBin;(focus rfl);apply lop_eqs;(focus rfl);(focus exact inferInstance);(focus rfl);(focus rfl);(focus assumption);(focus assumption);(focus rfl))|exact W9.lopC|fail):LOp C o σ e ro:=h
section steps
variable {C:Ctx} {ops:Array Oper} {o:Oper} {rest:List Oper} {K:St→Prop} {σ:St} {e:Eff} {ro:Nat→Bool} {W:List (Nat × Nat)} {i:Nat}
theorem rnC {d:Nat} (hg:Guard ops σ o true:=by first|exact gd_n rfl rfl|exact gd_t rfl rfl rfl rfl|exact gd_t rfl rfl rfl (by assumption)) (hd:o.dst=some d:=by rfl) (h:LOp C o σ e ro:=by exact lopC) (hk:RunN C ops rest K (e.app (some d) σ)):RunN C ops (o::rest) K σ:=rn_any hg hd h hk
theorem rkC {d:Nat} (hg:Guard ops σ o true:=by first|exact gd_n rfl rfl|exact gd_t rfl rfl rfl rfl|exact gd_t rfl rfl rfl (by assumption)) (hd':o.dst=some d:=by rfl) (hd:dOk C o.dst=true:=by rfl) (h:LOp C o σ e ro:=by exact lopC) (hro:∀ x,ro x=true→okObj ops W i x=true:=by first|exact fun _=>ro_none|exact ro_one rfl|exact ro_k1 rfl|exact ro_one (by kernel_rfl)|exact ro_k1 (by kernel_rfl)|exact ro_kIn (by decide)) (hob:∀ p∈e.obj,(i,p.1)∈W:=by first|exact ob_none|exact ob_one (by decide)|decide) (hk:RunK C ops W (i+1) rest K (e.app (some d) σ)):RunK C ops W i (o::rest) K σ:=rk_wr hg hd' hd h hro hob hk
end steps
end WC
open WC
theorem indexFuncK_w (f:FuncId) (caps:List PVal) (hf:FnT Tryz.prog f) (p:Kd→Bool) (l:List Kd) (ex:Bool) (h:l.length≤1000000000) (hp:∀ e∈l,PCall Tryz.prog f ([kV e]++caps.map .p) (.p (.b (p e)))):PCall Tryz.prog 170 [.p (.sl 10 (l.map kR) ex),.p (.fnv f caps)] (.p (.i (idxK p l 0 l.length))):=by
 refine pcall_of Tryz.func170 rfl (fun w0 F S0 M0=>?_)
 obtain ⟨A,hA⟩:∃ A,A=idxK p l 0 l.length:=⟨_,rfl⟩
 rw [← hA]
 repeat' (first|refine jx5 ?_|refine jy0 ?_ ?_|exact spF|refine spQ fun hq hq'=>?_|refine spN fun hn=>?_|fail)
 refine aws_loopS [4,5,8,9,10,11,12,13,14,15,16,17,18] [] (fun (i:Nat)=>[(8,.p (.i i))]) (fun _=>[]) (fun i=>i≤l.length∧A=idxK p l i (l.length - i)) (fun i=>l.length - i) 0 ⟨Nat.zero_le _,hA⟩ (by exact knA) (by exact knA) ?_
 rintro i β γ ⟨hi,hx⟩
 by_cases hil:i < l.length
 ·have hlt:decide ((i:Int) < l.length)=true:=decide_eq_true (by omega)
  rw [show l.length - i=(l.length - (i+1))+1 by omega,idxK] at hx
  haveI:PC Tryz.prog f ([kV (l.getD (i:Int).toNat default)]++caps.map .p) True (.p (.b (p (l.getD (i:Int).toNat default)))):=⟨fun _=>hp _ (by rw [Int.toNat_natCast,getD_at hil];exact List.getElem_mem _)⟩
  cases hv:p (l.getD (i:Int).toNat default) with
  | true=>
   have hv':=hv
   rw [Int.toNat_natCast] at hv'
   rw [if_pos hv'] at hx
   rw [hx]
   as_aux_lemma=>
    repeat' (first|refine jx5 ?_|refine jy0 ?_ ?_|exact spF|refine spQ fun hq hq'=>?_|refine spN fun hn=>?_|fail)
    exact rt1 rfl rfl finS_p rfl
  | false=>
   have hv':=hv
   rw [Int.toNat_natCast] at hv'
   rw [if_neg (by rw [hv'];simp)] at hx
   as_aux_lemma=>
    repeat' (first|refine jx5 ?_|refine jy0 ?_ ?_|exact spF|refine spQ fun hq hq'=>?_|refine spN fun hn=>?_|fail)
    exact ⟨i+1,_,by omega,⟨by omega,hx⟩,.refl,by exact frA⟩
 ·have hlt:decide ((i:Int) < l.length)=false:=decide_eq_false (by omega)
  rw [show l.length - i=0 by omega,idxK] at hx
  rw [hx]
  as_aux_lemma=>
   repeat' (first|refine jx5 ?_|refine jy0 ?_ ?_|exact spF|refine spQ fun hq hq'=>?_|refine spN fun hn=>?_|fail)
   exact rt1 rfl rfl finS_p rfl
end Go.Proofs.YtpgppgehhclfoaaGreat.Wi
namespace Go.Proofs.YtpgppgehhclfoaaGreat.Wi
open Go Go.RowKit Go.Aw Go.Aw.Cart Go.Proofs.YtpgppgehhclfoaaGreat.Ca
set_option linter.unusedVariables false
set_option linter.unusedSimpArgs false
set_option maxRecDepth 8000
set_option maxHeartbeats 4000000
theorem lop_bzK {C:Ctx} {o:Oper} {σ:St} {T e:TypeId} {sz by_:Nat} {ke:TK} {be:Nat} {z:List Value} {d n0:Nat} {mo0:Option MO} (ho:o.op=.buildSlice T 0 #[]) (hT:TI C.P T (.slice e) sz by_) (he:TI C.P e ke 10 be) (hz:TZ C.P e z) (hdst:o.dst=some d) (hm0:σ.mem d=(n0,mo0)) (hd:dOk C o.dst=true) :
  LOp C o σ ⟨.o (.osl d n0 10 0 ([]:List Kd).length),[(d,(n0+1,some (.buf e 10 (([]:List Kd).map kR))))]⟩ (fun q=>q == d):=lop_bo0 ho hT he hz hdst hm0 (by decide) hd
theorem lop_boK {C:Ctx} {o:Oper} {σ:St} {T e:TypeId} {sz by_:Nat} {ke:TK} {be:Nat} {z:List Value} {d n0:Nat} {mo0:Option MO} {x0:Operand} {k:Kd} (ho:o.op=.buildSlice T 1 #[(0,x0)]) (hT:TI C.P T (.slice e) sz by_) (he:TI C.P e ke 10 be) (hz:TZ C.P e z) (hdst:o.dst=some d) (hm0:σ.mem d=(n0,mo0)) (h0:σ.look x0=.a (kL k)) (hd:dOk C o.dst=true) :
  LOp C o σ ⟨.o (.osl d n0 10 0 1),[(d,(n0+1,some (.buf e 10 [kR k])))]⟩ (fun q=>q == d):=lop_buildO (ps:=[(0,kR k)]) ho hdst hm0 (.cons ⟨rfl,rfl,_,h0,rfl⟩ .nil) rfl (by decide) (by decide) hd
namespace WD
theorem lopC {C:Ctx} {o:Oper} {σ:St} {e:Eff} {ro:Nat→Bool} (h:LOp C o σ e ro:=by
  first|(apply lop_bzK;(focus rfl);(focus exact inferInstance);(focus exact inferInstance);(focus exact inferInstance);(focus rfl);(focus rfl);(focus rfl))|(apply lop_boK;(focus rfl);(focus exact inferInstance);(focus exact inferInstance);(focus exact inferInstance);(focus rfl);(focus rfl);(focus rfl);(focus rfl))|(apply gLoad;(focus rfl);apply lop_ld_bf;(focus rfl);(focus exact inferInstance);(focus rfl);(focus rfl);(focus rfl);(focus rfl);(focus rfl);(focus omega);(focus exact inferInstance);(focus rfl);(focus rfl))|exact WC.lopC|fail):LOp C o σ e ro:=h
section steps
variable {C:Ctx} {ops:Array Oper} {o:Oper} {rest:List Oper} {K:St→Prop} {σ:St} {e:Eff} {ro:Nat→Bool} {W:List (Nat × Nat)} {i:Nat}
theorem rnC {d:Nat} (hg:Guard ops σ o true:=by first|exact gd_n rfl rfl|exact gd_t rfl rfl rfl rfl|exact gd_t rfl rfl rfl (by assumption)) (hd:o.dst=some d:=by rfl) (h:LOp C o σ e ro:=by exact lopC) (hk:RunN C ops rest K (e.app (some d) σ)):RunN C ops (o::rest) K σ:=rn_any hg hd h hk
theorem rkC {d:Nat} (hg:Guard ops σ o true:=by first|exact gd_n rfl rfl|exact gd_t rfl rfl rfl rfl|exact gd_t rfl rfl rfl (by assumption)) (hd':o.dst=some d:=by rfl) (hd:dOk C o.dst=true:=by rfl) (h:LOp C o σ e ro:=by exact lopC) (hro:∀ x,ro x=true→okObj ops W i x=true:=by first|exact fun _=>ro_none|exact ro_one rfl|exact ro_k1 rfl|exact ro_one (by kernel_rfl)|exact ro_k1 (by kernel_rfl)|exact ro_kIn (by decide)) (hob:∀ p∈e.obj,(i,p.1)∈W:=by first|exact ob_none|exact ob_one (by decide)|decide) (hk:RunK C ops W (i+1) rest K (e.app (some d) σ)):RunK C ops W i (o::rest) K σ:=rk_wr hg hd' hd h hro hob hk
end steps
end WD
open WD
end Go.Proofs.YtpgppgehhclfoaaGreat.Wi
namespace Go.Proofs.YtpgppgehhclfoaaGreat.Wi
open Go Go.RowKit Go.Aw Go.Aw.Cart Go.Proofs.YtpgppgehhclfoaaGreat.Ca
set_option linter.unusedVariables false
set_option linter.unusedSimpArgs false
set_option maxRecDepth 8000
set_option maxHeartbeats 4000000
theorem lop_ld_bK {C:Ctx} {o:Oper} {σ:St} {l:List Kd} {T:TypeId} {x:Operand} {k:TK} {sz by_:Nat} {ob g n ty i:Nat} (ho:o.op=.load T x) (hT:TI C.P T k sz by_) (hx:σ.look x=.o (.ptr ob g (i * sz))) (hm:σ.mem ob=(n,some (.buf ty sz (l.map kR)))) (hn:n=g+1)
  (hk:k.agg=true) (hi:i < l.length) (hd:dOk C o.dst=true):LOp C o σ ⟨.a (kL (l.getD i default)),[]⟩ (fun y=>y == ob):=
 lop_ld_bk ho hT hx hm inferInstance hn hk hi rfl hd
namespace B1
theorem lopC {C:Ctx} {o:Oper} {σ:St} {e:Eff} {ro:Nat→Bool} (h:LOp C o σ e ro:=by
  first|(apply gLoad;(focus rfl);apply lop_ld_bK;(focus rfl);(focus exact inferInstance);(focus rfl);(focus rfl);(focus rfl);(focus rfl);(focus omega);(focus rfl))|(apply lop_lend2;(focus rfl);(focus exact inferInstance);(focus rfl);(focus rfl);(focus rfl);(focus exact (List.length_map ..).symm);(focus first|exact lk_m1 rfl|exact lk_m2 rfl|exact lk_m3 rfl|exact lk_o rfl|exact lk_a2 rfl|exact lk_a3 rfl|exact lk_a4 rfl|exact lk_a1 rfl|exact lk_a5 rfl|exact lk_a6 rfl|exact lk_a7 rfl|exact lk_a8 rfl|exact lk_a rfl);(focus exact inferInstance);(focus exact inferInstance);(focus first|exact True.intro|assumption|rfl|omega|((repeat' (first|assumption|refine And.intro ?_ ?_|omega|rfl));done)|fail);(focus exact RV.v);(focus rfl))|exact WC.lopC|exact lopQ|fail):LOp C o σ e ro:=h
section steps
variable {C:Ctx} {ops:Array Oper} {o:Oper} {rest:List Oper} {K:St→Prop} {σ:St} {e:Eff} {ro:Nat→Bool} {W:List (Nat × Nat)} {i:Nat}
theorem rnC {d:Nat} (hg:Guard ops σ o true:=by first|exact gd_n rfl rfl|exact gd_t rfl rfl rfl rfl|exact gd_t rfl rfl rfl (by assumption)) (hd:o.dst=some d:=by rfl) (h:LOp C o σ e ro:=by exact lopC) (hk:RunN C ops rest K (e.app (some d) σ)):RunN C ops (o::rest) K σ:=rn_any hg hd h hk
theorem rkC {d:Nat} (hg:Guard ops σ o true:=by first|exact gd_n rfl rfl|exact gd_t rfl rfl rfl rfl|exact gd_t rfl rfl rfl (by assumption)) (hd':o.dst=some d:=by rfl) (hd:dOk C o.dst=true:=by rfl) (h:LOp C o σ e ro:=by exact lopC) (hro:∀ x,ro x=true→okObj ops W i x=true:=by first|exact fun _=>ro_none|exact ro_one rfl|exact ro_k1 rfl|exact ro_one (by kernel_rfl)|exact ro_k1 (by kernel_rfl)|exact ro_kIn (by decide)) (hob:∀ p∈e.obj,(i,p.1)∈W:=by first|exact ob_none|exact ob_one (by decide)|decide) (hk:RunK C ops W (i+1) rest K (e.app (some d) σ)):RunK C ops W i (o::rest) K σ:=rk_wr hg hd' hd h hro hob hk
end steps
end B1
open B1
end Go.Proofs.YtpgppgehhclfoaaGreat.Wi
namespace Go.Proofs.YtpgppgehhclfoaaGreat.Wi
open Go Go.RowKit Go.Aw Go.Aw.Cart Go.Proofs.YtpgppgehhclfoaaGreat.Ca Go.Proofs.YtpgppgehhclfoaaGreat.Rg
set_option linter.unusedVariables false
set_option linter.unusedSimpArgs false
set_option maxRecDepth 8000
set_option maxHeartbeats 4000000
open B1
theorem ent_fnc {f:FuncId}:Ent1 (.p (.v (.func (.func f) #[] #[]))) (.p (.fnv f [])):=by
 rintro μ X v ⟨rfl,_⟩
 exact ⟨[],rfl,.nil⟩
end Go.Proofs.YtpgppgehhclfoaaGreat.Wi
