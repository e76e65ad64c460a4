/- packs: a list with another cart: copies -/
import Derived.Test.YtcbhmngagibhmaaGreatPRA22
import Derived.Test.YtcbhmngagibhmaaGreatPRA13
import Derived.Test.YtcbhmngagibhmaaGreatPRA07
import Derived.Test.YtcbhmngagibhmaaGreatPRA27
import Derived.Test.YtcbhmngagibhmaaGreatPRA28
namespace Go.Proofs.YtcbhmngagibhmaaGreat.Wi
open Go Go.RowKit Go.Aw Go.Aw.Cart Go.Proofs.YtcbhmngagibhmaaGreat.Ca
set_option linter.unusedVariables false
set_option linter.unusedSimpArgs false
set_option maxRecDepth 8000
set_option maxHeartbeats 4000000
theorem lop_bzK {C:Ctx} {o:Oper} {σ:St} {T e:TypeId} {sz by_:Nat} {ke:TK} {be:Nat} {z:List Value} {d n0:Nat} {mo0:Option MO} (ho:o.op=.buildSlice T 0 #[]) (hT:TI C.P T (.slice e) sz by_) (he:TI C.P e ke 10 be) (hz:TZ C.P e z) (hdst:o.dst=some d) (hm0:σ.mem d=(n0,mo0)) (hd:dOk C o.dst=true) :
  LOp C o σ ⟨.o (.osl d n0 10 0 ([]:List Kd).length),[(d,(n0+1,some (.buf e 10 (([]:List Kd).map kR))))]⟩ (fun q=>q == d):=lop_bo0 ho hT he hz hdst hm0 (by decide) hd
theorem lop_boK {C:Ctx} {o:Oper} {σ:St} {T e:TypeId} {sz by_:Nat} {ke:TK} {be:Nat} {z:List Value} {d n0:Nat} {mo0:Option MO} {x0:Operand} {k:Kd} (ho:o.op=.buildSlice T 1 #[(0,x0)]) (hT:TI C.P T (.slice e) sz by_) (he:TI C.P e ke 10 be) (hz:TZ C.P e z) (hdst:o.dst=some d) (hm0:σ.mem d=(n0,mo0)) (h0:σ.look x0=.a (kL k)) (hd:dOk C o.dst=true) :
  LOp C o σ ⟨.o (.osl d n0 10 0 1),[(d,(n0+1,some (.buf e 10 [kR k])))]⟩ (fun q=>q == d):=lop_buildO (ps:=[(0,kR k)]) ho hdst hm0 (.cons ⟨rfl,rfl,_,h0,rfl⟩ .nil) rfl (by decide) (by decide) hd
namespace WD
theorem lopC {C:Ctx} {o:Oper} {σ:St} {e:Eff} {ro:Nat→Bool} (h:LOp C o σ e ro:=by
  first|(apply lop_bzK;(focus rfl);(focus exact inferInstance);(focus exact inferInstance);(focus exact inferInstance);(focus rfl);(focus rfl);(focus rfl))|(apply lop_boK;(focus rfl);(focus exact inferInstance);(focus exact inferInstance);(focus exact inferInstance);(focus rfl);(focus rfl);(focus rfl);(focus rfl))|(apply gLoad;(focus rfl);apply lop_ld_bf;(focus rfl);(focus exact inferInstance);(focus rfl);(focus rfl);(focus rfl);(focus rfl);(focus rfl);(focus omega);(focus exact inferInstance);(focus rfl);(focus rfl))|exact WC.lopC|fail):LOp C o σ e ro:=h
section steps
variable {C:Ctx} {ops:Array Oper} {o:Oper} {rest:List Oper} {K:St→Prop} {σ:St} {e:Eff} {ro:Nat→Bool} {W:List (Nat × Nat)} {i:Nat}
theorem rnC {d:Nat} (hg:Guard ops σ o true:=by first|exact gd_n rfl rfl|exact gd_t rfl rfl rfl rfl|exact gd_t rfl rfl rfl (by assumption)) (hd:o.dst=some d:=by rfl) (h:LOp C o σ e ro:=by exact lopC) (hk:RunN C ops rest K (e.app (some d) σ)):RunN C ops (o::rest) K σ:=rn_any hg hd h hk
theorem rkC {d:Nat} (hg:Guard ops σ o true:=by first|exact gd_n rfl rfl|exact gd_t rfl rfl rfl rfl|exact gd_t rfl rfl rfl (by assumption)) (hd':o.dst=some d:=by rfl) (hd:dOk C o.dst=true:=by rfl) (h:LOp C o σ e ro:=by exact lopC) (hro:∀ x,ro x=true→okObj ops W i x=true:=by first|exact fun _=>ro_none|exact ro_one rfl|exact ro_k1 rfl|exact ro_one (by kernel_rfl)|exact ro_k1 (by kernel_rfl)|exact ro_kIn (by decide)) (hob:∀ p∈e.obj,(i,p.1)∈W:=by first|exact ob_none|exact ob_one (by decide)|decide) (hk:RunK C ops W (i+1) rest K (e.app (some d) σ)):RunK C ops W i (o::rest) K σ:=rk_wr hg hd' hd h hro hob hk
end steps
end WD
open WD
end Go.Proofs.YtcbhmngagibhmaaGreat.Wi
namespace Go.Proofs.YtcbhmngagibhmaaGreat.Wi
open Go Go.RowKit Go.Aw Go.Aw.Cart Go.Proofs.YtcbhmngagibhmaaGreat.Ca
set_option linter.unusedVariables false
set_option linter.unusedSimpArgs false
set_option maxRecDepth 8000
set_option maxHeartbeats 4000000
namespace B1
theorem lopC {C:Ctx} {o:Oper} {σ:St} {e:Eff} {ro:Nat→Bool} (h:LOp C o σ e ro:=by
  first|(apply lop_lend2;(focus rfl);(focus exact inferInstance);(focus rfl);(focus rfl);(focus rfl);(focus exact (List.length_map ..).symm);(focus first|exact lk_m1 rfl|exact lk_m2 rfl|exact lk_m3 rfl|exact lk_o rfl|exact lk_a2 rfl|exact lk_a3 rfl|exact lk_a4 rfl|exact lk_a1 rfl|exact lk_a5 rfl|exact lk_a6 rfl|exact lk_a7 rfl|exact lk_a8 rfl|exact lk_a rfl);(focus exact inferInstance);(focus exact inferInstance);(focus first|exact True.intro|assumption|rfl|omega|((repeat' (first|assumption|refine And.intro ?_ ?_|omega|rfl));done)|fail);(focus exact RV.v);(focus rfl))|exact WC.lopC|exact lopQ|fail):LOp C o σ e ro:=h
section steps
variable {C:Ctx} {ops:Array Oper} {o:Oper} {rest:List Oper} {K:St→Prop} {σ:St} {e:Eff} {ro:Nat→Bool} {W:List (Nat × Nat)} {i:Nat}
theorem rnC {d:Nat} (hg:Guard ops σ o true:=by first|exact gd_n rfl rfl|exact gd_t rfl rfl rfl rfl|exact gd_t rfl rfl rfl (by assumption)) (hd:o.dst=some d:=by rfl) (h:LOp C o σ e ro:=by exact lopC) (hk:RunN C ops rest K (e.app (some d) σ)):RunN C ops (o::rest) K σ:=rn_any hg hd h hk
theorem rkC {d:Nat} (hg:Guard ops σ o true:=by first|exact gd_n rfl rfl|exact gd_t rfl rfl rfl rfl|exact gd_t rfl rfl rfl (by assumption)) (hd':o.dst=some d:=by rfl) (hd:dOk C o.dst=true:=by rfl) (h:LOp C o σ e ro:=by exact lopC) (hro:∀ x,ro x=true→okObj ops W i x=true:=by first|exact fun _=>ro_none|exact ro_one rfl|exact ro_k1 rfl|exact ro_one (by kernel_rfl)|exact ro_k1 (by kernel_rfl)|exact ro_kIn (by decide)) (hob:∀ p∈e.obj,(i,p.1)∈W:=by first|exact ob_none|exact ob_one (by decide)|decide) (hk:RunK C ops W (i+1) rest K (e.app (some d) σ)):RunK C ops W i (o::rest) K σ:=rk_wr hg hd' hd h hro hob hk
end steps
end B1
open B1
end Go.Proofs.YtcbhmngagibhmaaGreat.Wi
namespace Go.Proofs.YtcbhmngagibhmaaGreat.Wi
open Go Go.RowKit Go.Aw Go.Aw.Cart Go.Proofs.YtcbhmngagibhmaaGreat.Ca Go.Proofs.YtcbhmngagibhmaaGreat.Rg
set_option linter.unusedVariables false
set_option linter.unusedSimpArgs false
set_option maxRecDepth 8000
set_option maxHeartbeats 4000000
open B1
theorem finL_map {α:Type} {σ:St} {K:Nat→Bool} {f:α→PVal} {l:List α}:All2 (FinC σ K) (l.map fun a=>.p (f a)) (l.map fun a=>.p (f a)):=by
 refine ⟨rfl,fun i a b ha hb=>?_⟩
 rw [ha] at hb;obtain rfl:=Option.some.inj hb
 rw [List.getElem?_map] at ha
 obtain ⟨x,_,rfl⟩:=Option.map_eq_some_iff.1 ha
 exact .p
theorem ent_fnc {f:FuncId}:Ent1 (.p (.v (.func (.func f) #[] #[]))) (.p (.fnv f [])):=by
 rintro μ X v ⟨rfl,_⟩
 exact ⟨[],rfl,.nil⟩
end Go.Proofs.YtcbhmngagibhmaaGreat.Wi
namespace Go.Aw
open Go Go.RowKit
theorem lop_callv2 {C:Ctx} {o:Oper} {σ:St} {f:FuncId} {x x0 x1:Operand} {ts:Array TypeId} {caps:List PVal} {a0 a1 r:AV} {pre:Prop} (ho:o.op=.call ⟨.value x,#[x0,x1],ts⟩) (hx:σ.look x=.p (.fnv f caps)) (hfn:FnT C.P f) (h0:σ.look x0=a0) (h1:σ.look x1=a1) (hp:PureAVs [a0,a1]) (hc:PC C.P f ([a0,a1]++caps.map .p) pre r) (hpre:pre) (hd:dOk C o.dst=true):LOp C o σ ⟨r,[]⟩ (fun _=>false):=
 lop_callv ho hfn hx (.cons h0 (.cons h1 .nil)) hp (hc.call hpre) hd
end Go.Aw
namespace Go.Proofs.YtcbhmngagibhmaaGreat.Wi
open Go Go.RowKit Go.Aw Go.Aw.Cart Go.Aw.Tree Go.Proofs.YtcbhmngagibhmaaGreat.Ca Go.Proofs.YtcbhmngagibhmaaGreat.Rg
set_option linter.unusedVariables false
set_option linter.unusedSimpArgs false
set_option maxRecDepth 8000
set_option maxHeartbeats 4000000
abbrev iRw (n:Int):List PVal:=[PVal.i n]
abbrev dRw (d:List Nat):List PVal:=d.map fun n:Nat=>PVal.k .u8 (n:Int)
def idxN (p:Int→Bool) (l:List Int) (k:Nat):Nat→Int
 | 0 => -1
 | n+1=>if p (l.getD k default)=true then k else idxN p l (k+1) n
theorem idxN_any {p:Int→Bool} {l:List Int}:∀ (n k:Nat),k+n=l.length→decide (0≤idxN p l k n)=(l.drop k).any p
 | 0,k,h=>by rw [List.drop_eq_nil_of_le (by omega)];rfl
 | n+1,k,h=>by
  have hk:k < l.length:=by omega
  have e:l.drop k=l.getD k default::l.drop (k+1):=by
   rw [List.getD_eq_getElem?_getD,List.getElem?_eq_getElem hk];exact List.drop_eq_getElem_cons hk
  rw [idxN,e,List.any_cons,← idxN_any n (k+1) (by omega)]
  by_cases hp:p (l.getD k default)=true
  ·rw [if_pos hp,hp];exact decide_eq_true (by omega)
  ·rw [if_neg hp,Bool.eq_false_iff.2 hp,Bool.false_or]
theorem idxK_any {p:Kd→Bool} {l:List Kd}:decide (0≤idxK p l 0 l.length)=l.any p:=by
 rcases idxK_found (p:=p) (l:=l) l.length 0 (by omega) with ⟨h1,h2⟩ | ⟨i,h1,_,h3,h4,_⟩
 ·rw [h1,decide_eq_false (by omega)]
  symm
  rw [List.any_eq_false]
  intro e he
  obtain ⟨j,hj,rfl⟩:=getD_mem he
  rw [h2 j (Nat.zero_le _) hj];simp
 ·rw [h1,decide_eq_true (by omega)]
  symm
  rw [List.any_eq_true]
  exact ⟨l.getD i default,by rw [getD_at h3];exact List.getElem_mem _,h4⟩
instance kdsDec (a b:List Kd):Decidable (a=b):=by
 letI:DecidableEq Kd:=fun x y=>inferInstance
 exact List.hasDecEq a b
namespace T2
theorem lopC {C:Ctx} {o:Oper} {σ:St} {e:Eff} {ro:Nat→Bool} (h:LOp C o σ e ro:=by
  first|(apply lop_callv2;(focus rfl);(focus rfl);(focus assumption);(focus first|exact lk_o rfl|exact lk_a rfl);(focus first|exact lk_o rfl|exact lk_a rfl);(focus exact inferInstance);(focus exact inferInstance);(focus exact True.intro);(focus rfl))|exact B1.lopC|exact T1.lopC|fail):LOp C o σ e ro:=h
section steps
variable {C:Ctx} {ops:Array Oper} {o:Oper} {rest:List Oper} {K:St→Prop} {σ:St} {e:Eff} {ro:Nat→Bool} {W:List (Nat × Nat)} {i:Nat}
theorem rnC {d:Nat} (hg:Guard ops σ o true:=by first|exact gd_n rfl rfl|exact gd_t rfl rfl rfl rfl|exact gd_t rfl rfl rfl (by assumption)) (hd:o.dst=some d:=by rfl) (h:LOp C o σ e ro:=by exact lopC) (hk:RunN C ops rest K (e.app (some d) σ)):RunN C ops (o::rest) K σ:=rn_any hg hd h hk
theorem rkC {d:Nat} (hg:Guard ops σ o true:=by first|exact gd_n rfl rfl|exact gd_t rfl rfl rfl rfl|exact gd_t rfl rfl rfl (by assumption)) (hd':o.dst=some d:=by rfl) (hd:dOk C o.dst=true:=by rfl) (h:LOp C o σ e ro:=by exact lopC) (hro:∀ x,ro x=true→okObj ops W i x=true:=by first|exact fun _=>ro_none|exact ro_one rfl|exact ro_k1 rfl|exact ro_one (by kernel_rfl)|exact ro_k1 (by kernel_rfl)|exact ro_kIn (by decide)) (hob:∀ p∈e.obj,(i,p.1)∈W:=by first|exact ob_none|exact ob_one (by decide)|decide) (hk:RunK C ops W (i+1) rest K (e.app (some d) σ)):RunK C ops W i (o::rest) K σ:=rk_wr hg hd' hd h hro hob hk
end steps
end T2
open T2
theorem indexFuncN_w (f:FuncId) (caps:List PVal) (hf:FnT Tryz.prog f) (p:Int→Bool) (l:List Int) (ex:Bool) (h:l.length≤1000000000) (hp:∀ e,PCall Tryz.prog f ([AV.p (PVal.i e)]++caps.map .p) (.p (.b (p e)))):PCall Tryz.prog 194 [.p (.sl 1 (l.map iRw) ex),.p (.fnv f caps)] (.p (.i (idxN p l 0 l.length))):=by
 refine pcall_of Tryz.func194 rfl (fun w0 F S0 M0=>?_)
 haveI:∀ e,PC Tryz.prog f ([AV.p (PVal.i e)]++caps.map .p) True (.p (.b (p e))):=fun e=>⟨fun _=>hp e⟩
 obtain ⟨A,hA⟩:∃ A,A=idxN p l 0 l.length:=⟨_,rfl⟩
 rw [← hA]
 repeat' (first|refine jx5 ?_|refine jy0 ?_ ?_|exact spF|refine spQ fun hq hq'=>?_|refine spN fun hn=>?_|fail)
 refine aws_loopS [4,5,8,9,10,11,12,13,14,15,16,17,18] [] (fun (i:Nat)=>[(8,.p (.i i))]) (fun _=>[]) (fun i=>i≤l.length∧A=idxN p l i (l.length - i)) (fun i=>l.length - i) 0 ⟨Nat.zero_le _,hA⟩ (by exact knA) (by exact knA) ?_
 rintro i β γ ⟨hi,hx⟩
 by_cases hil:i < l.length
 ·have hlt:decide ((i:Int) < l.length)=true:=decide_eq_true (by omega)
  rw [show l.length - i=(l.length - (i+1))+1 by omega,idxN] at hx
  cases hv:p (l.getD (i:Int).toNat default) with
  | true=>
   have hv':=hv
   rw [Int.toNat_natCast] at hv'
   rw [if_pos hv'] at hx
   rw [hx]
   as_aux_lemma=>
    repeat' (first|refine jx5 ?_|refine jy0 ?_ ?_|exact spF|refine spQ fun hq hq'=>?_|refine spN fun hn=>?_|fail)
    exact rt1 rfl rfl finS_p rfl
  | false=>
   have hv':=hv
   rw [Int.toNat_natCast] at hv'
   rw [if_neg (by rw [hv'];simp)] at hx
   as_aux_lemma=>
    repeat' (first|refine jx5 ?_|refine jy0 ?_ ?_|exact spF|refine spQ fun hq hq'=>?_|refine spN fun hn=>?_|fail)
    exact ⟨i+1,_,by omega,⟨by omega,hx⟩,.refl,by exact frA⟩
 ·have hlt:decide ((i:Int) < l.length)=false:=decide_eq_false (by omega)
  rw [show l.length - i=0 by omega,idxN] at hx
  rw [hx]
  as_aux_lemma=>
   repeat' (first|refine jx5 ?_|refine jy0 ?_ ?_|exact spF|refine spQ fun hq hq'=>?_|refine spN fun hn=>?_|fail)
   exact rt1 rfl rfl finS_p rfl
theorem containsFuncN_w (f:FuncId) (caps:List PVal) (hf:FnT Tryz.prog f) (p:Int→Bool) (l:List Int) (ex:Bool) (h:l.length≤1000000000) (hp:∀ e,PCall Tryz.prog f ([AV.p (PVal.i e)]++caps.map .p) (.p (.b (p e)))):PCall Tryz.prog 154 [.p (.sl 1 (l.map iRw) ex),.p (.fnv f caps)] (.p (.b (l.any p))):=by
 refine pcall_of Tryz.func154 rfl (fun w0 F S0 M0=>?_)
 haveI:PC Tryz.prog 194 [.p (.sl 1 (l.map iRw) ex),.p (.fnv f caps)] True (.p (.i (idxN p l 0 l.length))):=⟨fun _=>indexFuncN_w f caps hf p l ex h hp⟩
 as_aux_lemma=>
  repeat' (first|refine jx5 ?_|refine jy0 ?_ ?_|exact spF|refine spQ fun hq hq'=>?_|refine spN fun hn=>?_|fail)
  refine rt1 rfl rfl finS_p (rb ?_)
  have:=idxN_any (p:=p) (l:=l) l.length 0 (by omega)
  rw [List.drop_zero] at this
  exact this.symm
theorem containsFuncK_w (f:FuncId) (caps:List PVal) (hf:FnT Tryz.prog f) (p:Kd→Bool) (l:List Kd) (ex:Bool) (h:l.length≤1000000000) (hp:∀ e∈l,PCall Tryz.prog f ([kV e]++caps.map .p) (.p (.b (p e)))):PCall Tryz.prog 155 [.p (.sl 10 (l.map kR) ex),.p (.fnv f caps)] (.p (.b (l.any p))):=by
 refine pcall_of Tryz.func155 rfl (fun w0 F S0 M0=>?_)
 haveI:PC Tryz.prog 195 [.p (.sl 10 (l.map kR) ex),.p (.fnv f caps)] True (.p (.i (idxK p l 0 l.length))):=⟨fun _=>indexFuncK_w f caps hf p l ex h hp⟩
 as_aux_lemma=>
  repeat' (first|refine jx5 ?_|refine jy0 ?_ ?_|exact spF|refine spQ fun hq hq'=>?_|refine spN fun hn=>?_|fail)
  exact rt1 rfl rfl finS_p (rb idxK_any.symm)
theorem list_eq_of {α:Type} [Inhabited α] {a b:List α} (hl:a.length=b.length) (h:∀ j,j < a.length→a.getD j default=b.getD j default):a=b:=
 List.ext_getElem hl fun j h1 h2=>by
  have:=h j h1
  rwa [List.getD_eq_getElem?_getD,List.getD_eq_getElem?_getD,List.getElem?_eq_getElem h1,List.getElem?_eq_getElem h2] at this
theorem equalN_w (a b:List Int) (ex ey:Bool) (h:a.length≤1000000000):PCall Tryz.prog 84 [.p (.sl 1 (a.map iRw) ex),.p (.sl 1 (b.map iRw) ey)] (.p (.b (decide (a=b)))):=by
 refine pcall_of Tryz.func84 rfl (fun w0 F S0 M0=>?_)
 by_cases hl:a.length=b.length
 ·have d1:decide ((a.length:Int)≠(b.length:Int))=false:=decide_eq_false (by omega)
  repeat' (first|refine jx6 ?_|refine jy0 ?_ ?_|exact spF|refine spQ fun hq hq'=>?_|refine spN fun hn=>?_|fail)
  refine aws_loopS [4,5,13,14,15,16,17,18,19,20,21,22,23,24,25] [] (fun (i:Nat)=>[(13,.p (.i i))]) (fun _=>[]) (fun i=>i≤a.length∧∀ j,j < i→a.getD j default=b.getD j default) (fun i=>a.length - i) 0 ⟨Nat.zero_le _,fun j hj=>absurd hj (Nat.not_lt_zero _)⟩ (by exact knA) (by exact knA) ?_
  rintro i β γ ⟨hi,hx⟩
  by_cases hil:i < a.length
  ·have hlt:decide ((i:Int) < (a.length:Int))=true:=decide_eq_true (by omega)
   have hib:(i:Int) < (b.length:Int):=by omega
   by_cases hq:a.getD (i:Int).toNat default=b.getD (i:Int).toNat default
   ·have d2:decide (a.getD (i:Int).toNat default≠b.getD (i:Int).toNat default)=false:=decide_eq_false fun q=>q hq
    rw [Int.toNat_natCast] at hq
    repeat' (first|refine jx6 ?_|refine jy0 ?_ ?_|exact spF|refine spQ fun hq hq'=>?_|refine spN fun hn=>?_|fail)
    refine ⟨i+1,_,by omega,⟨by omega,fun j hj=>?_⟩,.refl,by exact frA⟩
    by_cases ej:j=i
    ·rw [ej];exact hq
    ·exact hx j (by omega)
   ·have d2:decide (a.getD (i:Int).toNat default≠b.getD (i:Int).toNat default)=true:=decide_eq_true hq
    rw [decide_eq_false (show ¬ a=b from fun q=>hq (by rw [q]))]
    as_aux_lemma=>
     repeat' (first|refine jx6 ?_|refine jy0 ?_ ?_|exact spF|refine spQ fun hq hq'=>?_|refine spN fun hn=>?_|fail)
     exact rt1 rfl rfl finS_p rfl
  ·have hlt:decide ((i:Int) < (a.length:Int))=false:=decide_eq_false (by omega)
   rw [decide_eq_true (list_eq_of hl fun j hj=>hx j (by omega))]
   as_aux_lemma=>
    repeat' (first|refine jx6 ?_|refine jy0 ?_ ?_|exact spF|refine spQ fun hq hq'=>?_|refine spN fun hn=>?_|fail)
    exact rt1 rfl rfl finS_p rfl
 ·have d1:decide ((a.length:Int)≠(b.length:Int))=true:=decide_eq_true (by omega)
  rw [decide_eq_false (show ¬ a=b from fun q=>hl (by rw [q]))]
  as_aux_lemma=>
   repeat' (first|refine jx6 ?_|refine jy0 ?_ ?_|exact spF|refine spQ fun hq hq'=>?_|refine spN fun hn=>?_|fail)
   exact rt1 rfl rfl finS_p rfl
theorem equalD_w (a b:List (List Nat)) (ex ey:Bool) (h:a.length≤1000000000) (ha:∀ d∈a,d.length=32) (hb:∀ d∈b,d.length=32):PCall Tryz.prog 85 [.p (.sl 32 (a.map dRw) ex),.p (.sl 32 (b.map dRw) ey)] (.p (.b (decide (a=b)))):=by
 refine pcall_of Tryz.func85 rfl (fun w0 F S0 M0=>?_)
 by_cases hl:a.length=b.length
 ·have d1:decide ((a.length:Int)≠(b.length:Int))=false:=decide_eq_false (by omega)
  repeat' (first|refine jx6 ?_|refine jy0 ?_ ?_|exact spF|refine spQ fun hq hq'=>?_|refine spN fun hn=>?_|fail)
  refine aws_loopS [4,5,13,14,15,16,17,18,19,20,21,22,23,24,25] [] (fun (i:Nat)=>[(13,.p (.i i))]) (fun _=>[]) (fun i=>i≤a.length∧∀ j,j < i→a.getD j default=b.getD j default) (fun i=>a.length - i) 0 ⟨Nat.zero_le _,fun j hj=>absurd hj (Nat.not_lt_zero _)⟩ (by exact knA) (by exact knA) ?_
  rintro i β γ ⟨hi,hx⟩
  by_cases hil:i < a.length
  ·have hlt:decide ((i:Int) < (a.length:Int))=true:=decide_eq_true (by omega)
   have hib:(i:Int) < (b.length:Int):=by omega
   have ei:(i:Int).toNat=i:=Int.toNat_natCast i
   have l1:(a.getD (i:Int).toNat default).length=32:=ha _ (by rw [ei,getD_at hil];exact List.getElem_mem _)
   have l2:(b.getD (i:Int).toNat default).length=32:=hb _ (by rw [ei,getD_at (by omega)];exact List.getElem_mem _)
   by_cases hq:a.getD (i:Int).toNat default=b.getD (i:Int).toNat default
   ·have d2:(!decide (a.getD (i:Int).toNat default=b.getD (i:Int).toNat default))=false:=by rw [decide_eq_true hq];rfl
    rw [Int.toNat_natCast] at hq
    repeat' (first|refine jx6 ?_|refine jy0 ?_ ?_|exact spF|refine spQ fun hq hq'=>?_|refine spN fun hn=>?_|fail)
    refine ⟨i+1,_,by omega,⟨by omega,fun j hj=>?_⟩,.refl,by exact frA⟩
    by_cases ej:j=i
    ·rw [ej];exact hq
    ·exact hx j (by omega)
   ·have d2:(!decide (a.getD (i:Int).toNat default=b.getD (i:Int).toNat default))=true:=by rw [decide_eq_false hq];rfl
    rw [decide_eq_false (show ¬ a=b from fun q=>hq (by rw [q]))]
    as_aux_lemma=>
     repeat' (first|refine jx6 ?_|refine jy0 ?_ ?_|exact spF|refine spQ fun hq hq'=>?_|refine spN fun hn=>?_|fail)
     exact rt1 rfl rfl finS_p rfl
  ·have hlt:decide ((i:Int) < (a.length:Int))=false:=decide_eq_false (by omega)
   rw [decide_eq_true (list_eq_of hl fun j hj=>hx j (by omega))]
   as_aux_lemma=>
    repeat' (first|refine jx6 ?_|refine jy0 ?_ ?_|exact spF|refine spQ fun hq hq'=>?_|refine spN fun hn=>?_|fail)
    exact rt1 rfl rfl finS_p rfl
 ·have d1:decide ((a.length:Int)≠(b.length:Int))=true:=decide_eq_true (by omega)
  rw [decide_eq_false (show ¬ a=b from fun q=>hl (by rw [q]))]
  as_aux_lemma=>
   repeat' (first|refine jx6 ?_|refine jy0 ?_ ?_|exact spF|refine spQ fun hq hq'=>?_|refine spN fun hn=>?_|fail)
   exact rt1 rfl rfl finS_p rfl
theorem same1_w (x y:Kd) (hx:KdI x) (hy:KdI y) (hf:x.2.2.length≤1000000000):PCall Tryz.prog 82 ([kV x,kV y]++([]:List PVal).map .p) (.p (.b (decide (x=y)))):=by
 refine pcall_of Tryz.func82 rfl (fun w0 F S0 M0=>?_)
 have k1:=hx.key
 have k2:=hy.key
 have e:decide (x=y)=(decide (x.1=y.1)&&sameF x.2.1 y.2.1 x.2.2 y.2.2):=by
  obtain ⟨a,v,l⟩:=x
  obtain ⟨b,w,m⟩:=y
  rw [Bool.eq_iff_iff]
  simp [sameF]
 rw [e]
 have c1:=same_w x.2.1 y.2.1 x.2.2 y.2.2 false false hx.vec.1 hy.vec.1 hf
 generalize sameF x.2.1 y.2.1 x.2.2 y.2.2=s at c1
 haveI:PC Tryz.prog 83 [cV x.2.1 x.2.2 false,cV y.2.1 y.2.2 false] True (.p (.b s)):=⟨fun _=>c1⟩
 by_cases hk:x.1=y.1
 ·have d1:decide (x.1=y.1)=true:=decide_eq_true hk
  rw [d1,Bool.true_and]
  as_aux_lemma=>
   repeat' (first|refine jx5 ?_|refine jy0 ?_ ?_|exact spF|refine spQ fun hq hq'=>?_|refine spN fun hn=>?_|fail)
   exact rt1 rfl rfl finS_p rfl
 ·have d1:decide (x.1=y.1)=false:=decide_eq_false hk
  rw [d1,Bool.false_and]
  as_aux_lemma=>
   repeat' (first|refine jx5 ?_|refine jy0 ?_ ?_|exact spF|refine spQ fun hq hq'=>?_|refine spN fun hn=>?_|fail)
   exact rt1 rfl rfl finS_p rfl
theorem equalK_w (a b:List Kd) (ex ey:Bool) (h:a.length≤1000000000) (ha:∀ k∈a,KdI k) (hb:∀ k∈b,KdI k) (hf:∀ k∈a,k.2.2.length≤1000000000):PCall Tryz.prog 86 [.p (.sl 10 (a.map kR) ex),.p (.sl 10 (b.map kR) ey),.p (.fnv 82 [])] (.p (.b (decide (a=b)))):=by
 refine pcall_of Tryz.func86 rfl (fun w0 F S0 M0=>?_)
 have hfn:FnT Tryz.prog 82:=inferInstance
 by_cases hl:a.length=b.length
 ·have d1:decide ((a.length:Int)≠(b.length:Int))=false:=decide_eq_false (by omega)
  repeat' (first|refine jx6 ?_|refine jy0 ?_ ?_|exact spF|refine spQ fun hq hq'=>?_|refine spN fun hn=>?_|fail)
  refine aws_loopS [6,7,8,9,17,18,19,20,21,22,23,24,25,26,27,28,29,30,31] [8,9] (fun (x:Nat × Option MO × Option MO)=>[(17,.p (.i x.1))]) (fun x=>[(8,(x.1,x.2.1)),(9,(x.1,x.2.2))]) (fun x=>x.1≤a.length∧∀ j,j < x.1→a.getD j default=b.getD j default) (fun x=>a.length - x.1) (0,none,none) ⟨Nat.zero_le _,fun j hj=>absurd hj (Nat.not_lt_zero _)⟩ (by exact knA) (by exact knA) ?_
  rintro ⟨i,m8,m9⟩ β γ ⟨hi,hx⟩
  dsimp only at hi hx ⊢
  by_cases hil:i < a.length
  ·have hlt:decide ((i:Int) < (a.length:Int))=true:=decide_eq_true (by omega)
   have hib:(i:Int) < (b.length:Int):=by omega
   have ei:(i:Int).toNat=i:=Int.toNat_natCast i
   have h1:a.getD (i:Int).toNat default∈a:=by rw [ei,getD_at hil];exact List.getElem_mem _
   have h2:b.getD (i:Int).toNat default∈b:=by rw [ei,getD_at (by omega)];exact List.getElem_mem _
   have c1:=same1_w _ _ (ha _ h1) (hb _ h2) (hf _ h1)
   by_cases hq:a.getD (i:Int).toNat default=b.getD (i:Int).toNat default
   ·rw [decide_eq_true hq] at c1
    haveI:PC Tryz.prog 82 ([kV (a.getD (i:Int).toNat default),kV (b.getD (i:Int).toNat default)]++([]:List PVal).map .p) True (.p (.b true)):=⟨fun _=>c1⟩
    rw [Int.toNat_natCast] at hq
    clear c1 h1 h2
    repeat' (first|refine jx6 ?_|refine jy0 ?_ ?_|exact spF|refine spQ fun hq hq'=>?_|refine spN fun hn=>?_|fail)
    refine ⟨(i+1,_,_),_,by dsimp only;omega,⟨by dsimp only;omega,fun j hj=>?_⟩,.refl,by exact frA⟩
    dsimp only at hj
    by_cases ej:j=i
    ·rw [ej];exact hq
    ·exact hx j (by omega)
   ·rw [decide_eq_false hq] at c1
    haveI:PC Tryz.prog 82 ([kV (a.getD (i:Int).toNat default),kV (b.getD (i:Int).toNat default)]++([]:List PVal).map .p) True (.p (.b false)):=⟨fun _=>c1⟩
    rw [decide_eq_false (show ¬ a=b from fun q=>hq (by rw [q]))]
    clear c1 h1 h2
    as_aux_lemma=>
     repeat' (first|refine jx6 ?_|refine jy0 ?_ ?_|exact spF|refine spQ fun hq hq'=>?_|refine spN fun hn=>?_|fail)
     exact rt1 rfl rfl finS_p rfl
  ·have hlt:decide ((i:Int) < (a.length:Int))=false:=decide_eq_false (by omega)
   rw [decide_eq_true (list_eq_of hl fun j hj=>hx j (by omega))]
   as_aux_lemma=>
    repeat' (first|refine jx6 ?_|refine jy0 ?_ ?_|exact spF|refine spQ fun hq hq'=>?_|refine spN fun hn=>?_|fail)
    exact rt1 rfl rfl finS_p rfl
 ·have d1:decide ((a.length:Int)≠(b.length:Int))=true:=decide_eq_true (by omega)
  rw [decide_eq_false (show ¬ a=b from fun q=>hl (by rw [q]))]
  as_aux_lemma=>
   repeat' (first|refine jx6 ?_|refine jy0 ?_ ?_|exact spF|refine spQ fun hq hq'=>?_|refine spN fun hn=>?_|fail)
   exact rt1 rfl rfl finS_p rfl
def lvlAt (n:Int) (l:List Int) (i:Nat):Bool:=decide (levelF (l.getD i default)=n)&&(decide (i=0)||decide (l.getD (i - 1) default < l.getD i default))
def lvlF (l:List Int) (n:Int):Bool:=decide ((∀ i,i < l.length→lvlAt n l i=true)∧0 < l.length)
theorem level_w (l:List Int) (ex:Bool) (n:Int) (hl:l.length≤9223372036854775807):PCall Tryz.prog 75 [.p (.sl 1 (l.map iRw) ex),.p (.i n)] (.p (.b (lvlF l n))):=by
 refine pcall_of Tryz.func75 rfl (fun w0 F S0 M0=>?_)
 haveI:∀ p:Int,PC Tryz.prog 149 [.p (.i p)] True (.p (.i (levelF p))):=fun p=>⟨fun _=>Tr.level_c p⟩
 repeat' (first|refine jx5 ?_|refine jy0 ?_ ?_|exact spF|refine spQ fun hq hq'=>?_|refine spN fun hn=>?_|fail)
 refine aws_loopS [4,5,6,9,10,11,12,13,14,15,16,17,18,19,20,21,22,23,24,25,26,27,28,29,30,31] [] (fun (i:Nat)=>[(9,.p (.i i))]) (fun _=>[]) (fun i=>i≤l.length∧∀ j,j < i→lvlAt n l j=true) (fun i=>l.length - i) 0 ⟨Nat.zero_le _,fun j hj=>absurd hj (Nat.not_lt_zero _)⟩ (by exact knA) (by exact knA) ?_
 rintro i β γ ⟨hi,hx⟩
 by_cases hil:i < l.length
 ·have hlt:decide ((i:Int) < (l.length:Int))=true:=decide_eq_true (by omega)
  have ei:(i:Int).toNat=i:=Int.toNat_natCast i
  have hbad:lvlAt n l i=false→lvlF l n=false:=fun q=>decide_eq_false fun z=>by have:=z.1 i hil;rw [q] at this;cases this
  have hgood:lvlAt n l i=true→∀ j,j < i+1→lvlAt n l j=true:=fun q j hj=>by
   by_cases e:j=i
   ·rw [e];exact q
   ·exact hx j (by omega)
  unfold lvlAt at hbad hgood
  rw [show l.getD i default=l.getD (i:Int).toNat default by rw [ei]] at hbad hgood
  by_cases h1:levelF (l.getD (i:Int).toNat default)=n
  ·have d1:decide (levelF (l.getD (i:Int).toNat default)≠n)=false:=decide_eq_false fun q=>q h1
   rw [decide_eq_true h1,Bool.true_and] at hbad hgood
   by_cases h0:i=0
   ·have d2:decide (0 < (i:Int))=false:=decide_eq_false (by omega)
    rw [decide_eq_true h0,Bool.true_or] at hgood
    as_aux_lemma=>
     repeat' (first|refine jx5 ?_|refine jy0 ?_ ?_|exact spF|refine spQ fun hq hq'=>?_|refine spN fun hn=>?_|fail)
     exact ⟨i+1,_,by omega,⟨by omega,hgood rfl⟩,.refl,by exact frA⟩
   ·have d2:decide (0 < (i:Int))=true:=decide_eq_true (by omega)
    have ej:((i:Int) - 1).toNat=i - 1:=by omega
    rw [decide_eq_false h0,Bool.false_or,← ej] at hbad hgood
    by_cases h2:l.getD ((i:Int) - 1).toNat default < l.getD (i:Int).toNat default
    ·have d3:decide (l.getD (i:Int).toNat default≤l.getD ((i:Int) - 1).toNat default)=false:=decide_eq_false (by omega)
     as_aux_lemma=>
      repeat' (first|refine jx5 ?_|refine jy0 ?_ ?_|exact spF|refine spQ fun hq hq'=>?_|refine spN fun hn=>?_|fail)
      exact ⟨i+1,_,by omega,⟨by omega,hgood (decide_eq_true h2)⟩,.refl,by exact frA⟩
    ·have d3:decide (l.getD (i:Int).toNat default≤l.getD ((i:Int) - 1).toNat default)=true:=decide_eq_true (by omega)
     rw [hbad (decide_eq_false h2)]
     as_aux_lemma=>
      repeat' (first|refine jx5 ?_|refine jy0 ?_ ?_|exact spF|refine spQ fun hq hq'=>?_|refine spN fun hn=>?_|fail)
      exact rt1 rfl rfl finS_p rfl
  ·have d1:decide (levelF (l.getD (i:Int).toNat default)≠n)=true:=decide_eq_true h1
   rw [decide_eq_false h1,Bool.false_and] at hbad
   rw [hbad rfl]
   as_aux_lemma=>
    repeat' (first|refine jx5 ?_|refine jy0 ?_ ?_|exact spF|refine spQ fun hq hq'=>?_|refine spN fun hn=>?_|fail)
    exact rt1 rfl rfl finS_p rfl
 ·have hlt:decide ((i:Int) < (l.length:Int))=false:=decide_eq_false (by omega)
  have e:lvlF l n=decide (0 < (l.length:Int)):=decide_eq_decide.2 ⟨fun q=>by omega,fun q=>⟨fun j hj=>hx j (by omega),by omega⟩⟩
  rw [e]
  as_aux_lemma=>
   repeat' (first|refine jx5 ?_|refine jy0 ?_ ?_|exact spF|refine spQ fun hq hq'=>?_|refine spN fun hn=>?_|fail)
   exact rt1 rfl rfl finS_p rfl
theorem isNode_w (n:Int):PCall Tryz.prog 79 [.p (.i n)] (.p (.b (decide (1≤n∧n≤8)))):=by
 refine pcall_of Tryz.func79 rfl (fun w0 F S0 M0=>?_)
 by_cases h:1≤n
 ·have d1:decide (1≤n)=true:=decide_eq_true h
  rw [decide_eq_decide.2 (show (1≤n∧n≤8)↔n≤8 from ⟨fun q=>q.2,fun q=>⟨h,q⟩⟩)]
  as_aux_lemma=>
   repeat' (first|refine jx5 ?_|refine jy0 ?_ ?_|exact spF|refine spQ fun hq hq'=>?_|refine spN fun hn=>?_|fail)
   exact rt1 rfl rfl finS_p rfl
 ·have d1:decide (1≤n)=false:=decide_eq_false h
  rw [decide_eq_false (show ¬ (1≤n∧n≤8) from fun q=>h q.1)]
  as_aux_lemma=>
   repeat' (first|refine jx5 ?_|refine jy0 ?_ ?_|exact spF|refine spQ fun hq hq'=>?_|refine spN fun hn=>?_|fail)
   exact rt1 rfl rfl finS_p rfl
end Go.Proofs.YtcbhmngagibhmaaGreat.Wi
namespace Go.Aw
open Go Go.RowKit
section
variable {α:Type} {k f t s p x y z c:α} {D E:List α}
theorem mc37 (h:D.length=32):(k::f::t::s::p::(D++[x,y,z]))[0+37]?=some x:=by
 show (D++[x,y,z])[32]?=some x
 rw [List.getElem?_append_right (by omega),h];rfl
theorem mc38 (h:D.length=32):(k::f::t::s::p::(D++[x,y,z]))[0+38]?=some y:=by
 show (D++[x,y,z])[33]?=some y
 rw [List.getElem?_append_right (by omega),h];rfl
theorem mc39 (h:D.length=32):(k::f::t::s::p::(D++[x,y,z]))[0+39]?=some z:=by
 show (D++[x,y,z])[34]?=some z
 rw [List.getElem?_append_right (by omega),h];rfl
theorem mcD (h:D.length=32):((k::f::t::s::p::(D++[x,y,z])).drop (0+5)).take 32=D:=by
 show (D++[x,y,z]).take 32=D
 rw [List.take_append_of_le_length (by omega),List.take_of_length_le (by omega)]
theorem mlen (h:D.length=32):(k::f::t::s::p::(D++[x,y,z])).length=40:=by simp [h]
theorem ms37 (h:D.length=32):(k::f::t::s::p::(D++[x,y,z])).set (0+37) c=k::f::t::s::p::(D++[c,y,z]):=by
 show k::f::t::s::p::((D++[x,y,z]).set 32 c)=_
 rw [List.set_append_right _ _ (by omega),h];rfl
theorem ms38 (h:D.length=32):(k::f::t::s::p::(D++[x,y,z])).set (0+38) c=k::f::t::s::p::(D++[x,c,z]):=by
 show k::f::t::s::p::((D++[x,y,z]).set 33 c)=_
 rw [List.set_append_right _ _ (by omega),h];rfl
theorem ms39 (h:D.length=32):(k::f::t::s::p::(D++[x,y,z])).set (0+39) c=k::f::t::s::p::(D++[x,y,c]):=by
 show k::f::t::s::p::((D++[x,y,z]).set 34 c)=_
 rw [List.set_append_right _ _ (by omega),h];rfl
theorem ms0:(k::f::t::s::p::D).set (0+0) c=c::f::t::s::p::D:=rfl
theorem ms1:(k::f::t::s::p::D).set (0+1) c=k::c::t::s::p::D:=rfl
theorem ms2:(k::f::t::s::p::D).set (0+2) c=k::f::c::s::p::D:=rfl
theorem ms3:(k::f::t::s::p::D).set (0+3) c=k::f::t::c::p::D:=rfl
theorem ms4:(k::f::t::s::p::D).set (0+4) c=k::f::t::s::c::D:=rfl
theorem msD (h:D.length=32):(k::f::t::s::p::(D++[x,y,z])).take (0+5)++E++(k::f::t::s::p::(D++[x,y,z])).drop (0+5+32)=k::f::t::s::p::(E++[x,y,z]):=by
 show k::f::t::s::p::(E++(D++[x,y,z]).drop 32)=_
 rw [List.drop_append_of_le_length (by omega),List.drop_of_length_le (by omega),List.nil_append]
end
section
variable {C:Ctx} {o:Oper} {σ:St} {T:TypeId} {x y:Operand} {k:TK} {sz by_ ob g n off:Nat} {ty:TypeId}
theorem lop_ldm {cs:List AC} {c:AC} (ho:o.op=.load T x) (hT:TI C.P T k sz by_) (hx:σ.look x=.o (.ptr ob g off)) (hm:σ.mem ob=(n,some (.box ty cs))) (hn:n=g+1) (hk:k.agg=false) (hs:sz=1) (hc:cs[off]?=some c) (hd:dOk C o.dst=true):LOp C o σ ⟨.o c,[]⟩ (fun y=>y == ob):=
 lop_load_one (o:=o) ho hx hm hn hk hs hc hd
theorem lop_ldmD {cs ds:List AC} (ho:o.op=.load T x) (hT:TI C.P T k sz by_) (hx:σ.look x=.o (.ptr ob g (0+5))) (hm:σ.mem ob=(n,some (.box ty cs))) (hn:n=g+1) (hk:k.agg=true) (hs:sz=32) (hl:cs.length=40) (hc:(cs.drop (0+5)).take 32=ds) (hd:dOk C o.dst=true):LOp C o σ ⟨.a ds,[]⟩ (fun y=>y == ob):=by
 subst hs
 have:=lop_load_box (o:=o) ho hx hm hn hk (by omega) hd
 rwa [hc] at this
theorem lop_ldmA {cs:List AC} (ho:o.op=.load T x) (hT:TI C.P T k sz by_) (hx:σ.look x=.o (.ptr ob g 0)) (hm:σ.mem ob=(n,some (.box ty cs))) (hn:n=g+1) (hk:k.agg=true) (hs:sz=40) (hl:cs.length=40) (hd:dOk C o.dst=true):LOp C o σ ⟨.a cs,[]⟩ (fun y=>y == ob):=
 lop_load_all (o:=o) ho hx hm hn hk (hl.trans hs.symm) hd
theorem lop_stm {cs ds:List AC} {c:AC} (ho:o.op=.store T x y) (hT:TI C.P T k sz by_) (hdst:o.dst=none) (hx:σ.look x=.o (.ptr ob g off)) (hy:σ.look y=.o c) (hm:σ.mem ob=(n,some (.box ty cs))) (hn:n=g+1) (hs:sz=1) (hl:cs.length=40) (ho40:off < 40) (hds:cs.set off c=ds):LOp C o σ ⟨.un,[(ob,(n,some (.box ty ds)))]⟩ (fun z=>z == ob):=
 lop_store_x ho hT hdst hx hy hm hn hs (by omega) hds
theorem lop_stmD {cs ds es:List AC} (ho:o.op=.store T x y) (hT:TI C.P T k sz by_) (hdst:o.dst=none) (hx:σ.look x=.o (.ptr ob g (0+5))) (hy:σ.look y=.a es) (hm:σ.mem ob=(n,some (.box ty cs))) (hn:n=g+1) (hs:sz=32) (hl:cs.length=40) (he:es.length=32) (hds:cs.take (0+5)++es++cs.drop (0+5+32)=ds):LOp C o σ ⟨.un,[(ob,(n,some (.box ty ds)))]⟩ (fun z=>z == ob):=by
 subst hs
 have:=lop_store (o:=o) (hT:=hT) (s:=.agg es) ho hdst hx hy hm hn (by omega) (by simpa [SV.cells] using he)
 rw [show SV.cells (.agg es)=es from rfl,hds] at this
 exact this
theorem lop_stmA {cs ds:List AC} (ho:o.op=.store T x y) (hT:TI C.P T k sz by_) (hdst:o.dst=none) (hx:σ.look x=.o (.ptr ob g 0)) (hy:σ.look y=.a ds) (hm:σ.mem ob=(n,some (.box ty cs))) (hn:n=g+1) (hs:sz=40) (hl:cs.length=40) (hl2:ds.length=40):LOp C o σ ⟨.un,[(ob,(n,some (.box ty ds)))]⟩ (fun z=>z == ob):=
 lop_store_all (o:=o) ho hdst hx hy hm hn (hl.trans hs.symm) (hl2.trans hs.symm)
end
theorem stoM {C:Ctx} {o:Oper} {σ:St} {e:Eff} {ro:Nat→Bool} (h:LOp C o σ e ro:=by
  first|(apply lop_stm;(focus rfl);(focus exact inferInstance);(focus rfl);(focus rfl);(focus rfl);(focus rfl);(focus rfl);(focus rfl);(focus exact mlen (by first|assumption|(rw [List.length_map];assumption)|rfl));(focus decide);(focus first|exact ms37 (by first|assumption|(rw [List.length_map];assumption)|rfl)|exact ms38 (by first|assumption|(rw [List.length_map];assumption)|rfl)|exact ms39 (by first|assumption|(rw [List.length_map];assumption)|rfl)|exact ms3|exact ms4|exact ms0|exact ms1|exact ms2))|(apply lop_stmD;(focus rfl);(focus exact inferInstance);(focus rfl);(focus rfl);(focus rfl);(focus rfl);(focus rfl);(focus rfl);(focus exact mlen (by first|assumption|(rw [List.length_map];assumption)|rfl));(focus first|assumption|(rw [List.length_map];assumption)|rfl);(focus exact msD (by first|assumption|(rw [List.length_map];assumption)|rfl)))|(apply lop_stmA;(focus rfl);(focus exact inferInstance);(focus rfl);(focus rfl);(focus rfl);(focus rfl);(focus rfl);(focus rfl);(focus first|exact mlen (by first|assumption|(rw [List.length_map];assumption)|rfl)|rfl);(focus exact mlen (by first|assumption|(rw [List.length_map];assumption)|rfl)))|exact stoB|fail):LOp C o σ e ro:=h
section steps
variable {C:Ctx} {ops:Array Oper} {o:Oper} {rest:List Oper} {K:St→Prop} {σ:St} {e:Eff} {ro:Nat→Bool} {W:List (Nat × Nat)} {i:Nat}
theorem rnSM (hg:Guard ops σ o true:=by first|exact gd_n rfl rfl|exact gd_t rfl rfl rfl rfl|exact gd_t rfl rfl rfl (by assumption)) (hd:o.dst=none:=by rfl) (h:LOp C o σ e ro:=by exact stoM) (hk:RunN C ops rest K (e.app none σ)):RunN C ops (o::rest) K σ:=rn_sto hg hd h hk
theorem rkSM (hg:Guard ops σ o true:=by first|exact gd_n rfl rfl|exact gd_t rfl rfl rfl rfl|exact gd_t rfl rfl rfl (by assumption)) (hd':o.dst=none:=by rfl) (h:LOp C o σ e ro:=by exact stoM) (hro:∀ x,ro x=true→okObj ops W i x=true:=by first|exact fun _=>ro_none|exact ro_one rfl|exact ro_one (by kernel_rfl)|exact ro_kIn (by decide)) (hob:∀ p∈e.obj,(i,p.1)∈W:=by first|exact ob_none|exact ob_one (by decide)|decide) (hk:RunK C ops W (i+1) rest K (e.app none σ)):RunK C ops W i (o::rest) K σ:=rk_sto hg hd' h hro hob hk
end steps
theorem aws_mid {ι:Type} {C:Ctx} {σ:St} {k:List Code} {c c2:Code} {Q:Exit→St→Prop} (P:ι→Prop) (e:ι→List (Nat × AV)) (m:ι→List (Nat × (Nat × Option MO)))
  (h1:AWs C [c] (fun ex s=>match ex with | .normal=>∃ x,P x∧Knows s.env (e x)∧Knows s.mem (m x)|ex=>Q ex s) σ)
  (h2:∀ (x:ι) (ν:Nat→Nat),P x→AWs C (c2::k) Q ⟨ovl (e x) fun _=>.un,ovl (m x) fun o=>(ν o,none)⟩):AWs C (c::c2::k) Q σ:=
 aw_mono (aws_one h1) fun ex s q=>by
  cases ex with
  | normal=>obtain ⟨x,hP,he,hm⟩:=q;exact aws_sm (e x) (m x) he hm (fun ν=>h2 x ν hP)
  | _=>exact q
theorem stpB {X Y:Prop} (e:Y→X:=by
  first|exact rn_nil|exact rk_nil|exact aws_seq|exact aws_region|exact aws_skip|exact aws_label|fail) (h:Y):X:=e h
end Go.Aw
namespace Go.Proofs.YtcbhmngagibhmaaGreat.Wi
open Go Go.RowKit Go.Aw Go.Aw.Cart Go.Aw.Tree Go.Proofs.YtcbhmngagibhmaaGreat.Ca Go.Proofs.YtcbhmngagibhmaaGreat.Rg
set_option linter.unusedVariables false
set_option linter.unusedSimpArgs false
set_option maxRecDepth 8000
set_option maxHeartbeats 4000000
structure Msg where
 kind:Int
 frm:Int
 to:Int
 ses:Int
 part:Int
 dig:List Nat
 pls:List Int
 dgs:List (List Nat)
 kds:List Kd
deriving Inhabited
abbrev mR (m:Msg):List PVal:=.i m.kind::.i m.frm::.i m.to::.i m.ses::.i m.part::(m.dig.map (fun n:Nat=>PVal.k .u8 (n:Int))++[.sl 1 (m.pls.map iRw) false,.sl 32 (m.dgs.map dRw) false,.sl 10 (m.kds.map kR) false])
abbrev mL (m:Msg):List AC:=.p (.i m.kind)::.p (.i m.frm)::.p (.i m.to)::.p (.i m.ses)::.p (.i m.part)::(m.dig.map bcD++[.p (.sl 1 (m.pls.map iRw) false),.p (.sl 32 (m.dgs.map dRw) false),.p (.sl 10 (m.kds.map kR) false)])
abbrev mV (m:Msg):AV:=.a (mL m)
theorem mL_eq (m:Msg):mL m=(mR m).map .p:=by
 unfold mL mR
 simp only [List.map_cons,List.map_append,List.map_map,List.map_nil]
 rfl
structure MIn (m:Msg):Prop where
 d32:m.dig.length=32
 dok:okB m.dig
 pl:m.pls.length≤1000000000
 dl:m.dgs.length≤1000000000
 dg:∀ d∈m.dgs,d.length=32∧okB d
 kl:m.kds.length≤100000
 kd:∀ k∈m.kds,KdI k
 few:∀ k∈m.kds,k.2.2.length≤1000000
def sameM (a b:Msg):Bool:=decide (a.kind=b.kind)&&(decide (a.frm=b.frm)&&(decide (a.to=b.to)&&(decide (a.ses=b.ses)&&(decide (a.part=b.part)&&(decide (a.dig=b.dig)&&(decide (a.pls=b.pls)&&(decide (a.dgs=b.dgs)&&decide (a.kds=b.kds))))))))
theorem sameM_iff {a b:Msg}:sameM a b=true↔a=b:=by
 obtain ⟨a1,a2,a3,a4,a5,a6,a7,a8,a9⟩:=a
 obtain ⟨b1,b2,b3,b4,b5,b6,b7,b8,b9⟩:=b
 unfold sameM
 simp only [Bool.and_eq_true,decide_eq_true_iff,Msg.mk.injEq]
namespace T3
theorem lopC {C:Ctx} {o:Oper} {σ:St} {e:Eff} {ro:Nat→Bool} (h:LOp C o σ e ro:=by
  first
   | (apply gLoad;(focus rfl);first|(apply lop_ldm;(focus rfl);(focus exact inferInstance);(focus rfl);(focus rfl);(focus rfl);(focus rfl);(focus rfl);(focus first|exact mc37 (by first|assumption|(rw [List.length_map];assumption)|rfl)|exact mc38 (by first|assumption|(rw [List.length_map];assumption)|rfl)|exact mc39 (by first|assumption|(rw [List.length_map];assumption)|rfl));(focus rfl))|(apply lop_ldmD;(focus rfl);(focus exact inferInstance);(focus rfl);(focus rfl);(focus rfl);(focus rfl);(focus rfl);(focus exact mlen (by first|assumption|(rw [List.length_map];assumption)|rfl));(focus exact mcD (by first|assumption|(rw [List.length_map];assumption)|rfl));(focus rfl))|(apply lop_ldmA;(focus rfl);(focus exact inferInstance);(focus rfl);(focus rfl);(focus rfl);(focus rfl);(focus rfl);(focus exact mlen (by first|assumption|(rw [List.length_map];assumption)|rfl));(focus rfl))|(apply lop_ld_bx;(focus rfl);(focus exact inferInstance);(focus rfl);(focus rfl);(focus rfl);(focus first|exact mc37 (by first|assumption|(rw [List.length_map];assumption)|rfl)|exact mc38 (by first|assumption|(rw [List.length_map];assumption)|rfl)|exact mc39 (by first|assumption|(rw [List.length_map];assumption)|rfl));(focus rfl))|(apply lop_ld_fbx;(focus rfl);(focus exact inferInstance);(focus rfl);(focus rfl);(focus rfl);(focus rfl);(focus rfl);(focus first|exact mc37 (by first|assumption|(rw [List.length_map];assumption)|rfl)|exact mc38 (by first|assumption|(rw [List.length_map];assumption)|rfl)|exact mc39 (by first|assumption|(rw [List.length_map];assumption)|rfl));(focus rfl)))
   | exact T2.lopC
   | fail):LOp C o σ e ro:=h
section steps
variable {C:Ctx} {ops:Array Oper} {o:Oper} {rest:List Oper} {K:St→Prop} {σ:St} {e:Eff} {ro:Nat→Bool} {W:List (Nat × Nat)} {i:Nat}
theorem rnC {d:Nat} (hg:Guard ops σ o true:=by first|exact gd_n rfl rfl|exact gd_t rfl rfl rfl rfl|exact gd_t rfl rfl rfl (by assumption)) (hd:o.dst=some d:=by rfl) (h:LOp C o σ e ro:=by exact lopC) (hk:RunN C ops rest K (e.app (some d) σ)):RunN C ops (o::rest) K σ:=rn_any hg hd h hk
theorem rkC {d:Nat} (hg:Guard ops σ o true:=by first|exact gd_n rfl rfl|exact gd_t rfl rfl rfl rfl|exact gd_t rfl rfl rfl (by assumption)) (hd':o.dst=some d:=by rfl) (hd:dOk C o.dst=true:=by rfl) (h:LOp C o σ e ro:=by exact lopC) (hro:∀ x,ro x=true→okObj ops W i x=true:=by first|exact fun _=>ro_none|exact ro_one rfl|exact ro_k1 rfl|exact ro_one (by kernel_rfl)|exact ro_k1 (by kernel_rfl)|exact ro_kIn (by decide)) (hob:∀ p∈e.obj,(i,p.1)∈W:=by first|exact ob_none|exact ob_one (by decide)|decide) (hk:RunK C ops W (i+1) rest K (e.app (some d) σ)):RunK C ops W i (o::rest) K σ:=rk_wr hg hd' hd h hro hob hk
end steps
end T3
open T3
theorem psame_w (a b:Msg) (ha:MIn a) (hb:MIn b):PCall Tryz.prog 17 [mV a,mV b] (.p (.b (sameM a b))):=by
 refine pcall_of Tryz.func17 rfl (fun w0 F S0 M0=>?_)
 have h1:=ha.d32
 have h2:=hb.d32
 have l1:(a.dig.map bcD).length=32:=by rw [List.length_map];exact h1
 have l2:(b.dig.map bcD).length=32:=by rw [List.length_map];exact h2
 haveI e1:PC Tryz.prog 84 [.p (.sl 1 (a.pls.map iRw) false),.p (.sl 1 (b.pls.map iRw) false)] True (.p (.b (decide (a.pls=b.pls)))):=⟨fun _=>equalN_w _ _ _ _ ha.pl⟩
 haveI e2:PC Tryz.prog 85 [.p (.sl 32 (a.dgs.map dRw) false),.p (.sl 32 (b.dgs.map dRw) false)] True (.p (.b (decide (a.dgs=b.dgs)))):=⟨fun _=>equalD_w _ _ _ _ ha.dl (fun d hd=>(ha.dg d hd).1) (fun d hd=>(hb.dg d hd).1)⟩
 have c3:=equalK_w a.kds b.kds false false (by have:=ha.kl;omega) ha.kd hb.kd (fun k hk=>by have:=ha.few k hk;omega)
 have c4:PCall Tryz.prog 86 [.p (.sl 10 (a.kds.map kR) false),.p (.sl 10 (b.kds.map kR) false),.p (.v (.func (.func 82) #[] #[]))] (.p (.b (decide (a.kds=b.kds)))):=c3.ent (.cons Ent1.refl (.cons Ent1.refl (.cons ent_fnc .nil)))
 haveI e3:PC Tryz.prog 86 [.p (.sl 10 (a.kds.map kR) false),.p (.sl 10 (b.kds.map kR) false),.p (.v (.func (.func 82) #[] #[]))] True (.p (.b (decide (a.kds=b.kds)))):=⟨fun _=>c4⟩
 clear c3 c4 ha hb
 unfold sameM
 by_cases q1:a.kind=b.kind
 ·have d1:decide (a.kind=b.kind)=true:=decide_eq_true q1
  rw [d1,Bool.true_and]
  by_cases q2:a.frm=b.frm
  ·have d2:decide (a.frm=b.frm)=true:=decide_eq_true q2
   rw [d2,Bool.true_and]
   by_cases q3:a.to=b.to
   ·have d3:decide (a.to=b.to)=true:=decide_eq_true q3
    rw [d3,Bool.true_and]
    by_cases q4:a.ses=b.ses
    ·have d4:decide (a.ses=b.ses)=true:=decide_eq_true q4
     rw [d4,Bool.true_and]
     by_cases q5:a.part=b.part
     ·have d5:decide (a.part=b.part)=true:=decide_eq_true q5
      rw [d5,Bool.true_and]
      by_cases q6:a.dig=b.dig
      ·have d6:decide (a.dig=b.dig)=true:=decide_eq_true q6
       rw [d6,Bool.true_and]
       cases q7:decide (a.pls=b.pls) with
       | true=>
        rw [Bool.true_and]
        cases q8:decide (a.dgs=b.dgs) with
        | true=>
         rw [Bool.true_and]
         as_aux_lemma=>
          repeat' (first|refine jx5 ?_|refine jy0 ?_ ?_|exact spF|refine spQ fun hq hq'=>?_|refine spN fun hn=>?_|fail)
          exact rt1 rfl rfl finS_p rfl
        | false=>
         rw [Bool.false_and]
         as_aux_lemma=>
          repeat' (first|refine jx5 ?_|refine jy0 ?_ ?_|exact spF|refine spQ fun hq hq'=>?_|refine spN fun hn=>?_|fail)
          exact rt1 rfl rfl finS_p rfl
       | false=>
        rw [Bool.false_and]
        as_aux_lemma=>
         repeat' (first|refine jx5 ?_|refine jy0 ?_ ?_|exact spF|refine spQ fun hq hq'=>?_|refine spN fun hn=>?_|fail)
         exact rt1 rfl rfl finS_p rfl
      ·have d6:decide (a.dig=b.dig)=false:=decide_eq_false q6
       rw [d6,Bool.false_and]
       as_aux_lemma=>
        repeat' (first|refine jx5 ?_|refine jy0 ?_ ?_|exact spF|refine spQ fun hq hq'=>?_|refine spN fun hn=>?_|fail)
        exact rt1 rfl rfl finS_p rfl
     ·have d5:decide (a.part=b.part)=false:=decide_eq_false q5
      rw [d5,Bool.false_and]
      as_aux_lemma=>
       repeat' (first|refine jx5 ?_|refine jy0 ?_ ?_|exact spF|refine spQ fun hq hq'=>?_|refine spN fun hn=>?_|fail)
       exact rt1 rfl rfl finS_p rfl
    ·have d4:decide (a.ses=b.ses)=false:=decide_eq_false q4
     rw [d4,Bool.false_and]
     as_aux_lemma=>
      repeat' (first|refine jx5 ?_|refine jy0 ?_ ?_|exact spF|refine spQ fun hq hq'=>?_|refine spN fun hn=>?_|fail)
      exact rt1 rfl rfl finS_p rfl
   ·have d3:decide (a.to=b.to)=false:=decide_eq_false q3
    rw [d3,Bool.false_and]
    as_aux_lemma=>
     repeat' (first|refine jx5 ?_|refine jy0 ?_ ?_|exact spF|refine spQ fun hq hq'=>?_|refine spN fun hn=>?_|fail)
     exact rt1 rfl rfl finS_p rfl
  ·have d2:decide (a.frm=b.frm)=false:=decide_eq_false q2
   rw [d2,Bool.false_and]
   as_aux_lemma=>
    repeat' (first|refine jx5 ?_|refine jy0 ?_ ?_|exact spF|refine spQ fun hq hq'=>?_|refine spN fun hn=>?_|fail)
    exact rt1 rfl rfl finS_p rfl
 ·have d1:decide (a.kind=b.kind)=false:=decide_eq_false q1
  rw [d1,Bool.false_and]
  as_aux_lemma=>
   repeat' (first|refine jx5 ?_|refine jy0 ?_ ?_|exact spF|refine spQ fun hq hq'=>?_|refine spN fun hn=>?_|fail)
   exact rt1 rfl rfl finS_p rfl
end Go.Proofs.YtcbhmngagibhmaaGreat.Wi
namespace Go.Proofs.YtcbhmngagibhmaaGreat.Wi
open Go Go.RowKit Go.Aw Go.Aw.Cart Go.Aw.Tree Go.Proofs.YtcbhmngagibhmaaGreat.Ca Go.Proofs.YtcbhmngagibhmaaGreat.Rg
set_option linter.unusedVariables false
set_option linter.unusedSimpArgs false
set_option maxRecDepth 8000
set_option maxHeartbeats 4000000
def ownM (m:Msg):Msg where
 kind:=m.kind
 frm:=m.frm
 to:=m.to
 ses:=if m.kind=7 then 0 else m.ses
 part:=if m.kind=7 then 0 else m.part
 dig:=if m.kind=1 then m.dig else zeroD
 pls:=if m.kind=2∨m.kind=3∨m.kind=6∨m.kind=5 then m.pls else []
 dgs:=if m.kind=5 then m.dgs else []
 kds:=if m.kind=3∨m.kind=6∨m.kind=7 then m.kds else []
theorem own_in {m:Msg} (h:MIn m):MIn (ownM m):=by
 obtain ⟨h1,h2,h3,h4,h5,h6,h7,h8⟩:=h
 unfold ownM
 constructor<;>dsimp only<;>split
 any_goals assumption
 ·rfl
 ·intro c hc;rw [List.eq_of_mem_replicate hc];decide
 ·simp
 ·simp
 ·intro d hd;cases hd
 ·simp
 ·intro d hd;cases hd
 ·intro d hd;cases hd
theorem finM {σ:St} {K:Nat→Bool} {p0 p1 p2 p3 p4:PVal} {d:List Nat} {x y z x' y' z':AC} (h1:FinC σ K x x') (h2:FinC σ K y y') (h3:FinC σ K z z'):All2 (FinC σ K) (.p p0::.p p1::.p p2::.p p3::.p p4::(d.map bcD++[x,y,z])) (.p p0::.p p1::.p p2::.p p3::.p p4::(d.map bcD++[x',y',z'])):=by
 refine .cons .p (.cons .p (.cons .p (.cons .p (.cons .p ?_))))
 induction d with
 | nil=>exact .cons h1 (.cons h2 (.cons h3 .nil))
 | cons a d ih=>exact .cons .p ih
theorem lop_build5m {C:Ctx} {o:Oper} {σ:St} {T:TypeId} {x0 x1 x2 x3 x4:Operand} {p0 p1 p2 p3 p4:PVal} {fs:List (Nat × Nat)} {z:List Value} (ho:o.op=.build T #[(0,x0),(1,x1),(2,x2),(3,x3),(4,x4)]) (hF:TF C.P T fs) (hz:TZ C.P T z) (g0:σ.look x0=.p p0) (g1:σ.look x1=.p p1) (g2:σ.look x2=.p p2) (g3:σ.look x3=.p p3) (g4:σ.look x4=.p p4) (h1:z.all (·.oneCell')=true)
  (hb:bfill (fun i=>fs[i]?) (z.map fun v=>.p (.v v)) [(0,[.p p0]),(1,[.p p1]),(2,[.p p2]),(3,[.p p3]),(4,[.p p4])]=some (.p p0::.p p1::.p p2::.p p3::.p p4::(zeroD.map bcD++[.p (.v (.slice none 0 0)),.p (.v (.slice none 0 0)),.p (.v (.slice none 0 0))]))) (hd:dOk C o.dst=true) :
  LOp C o σ ⟨.a (.p p0::.p p1::.p p2::.p p3::.p p4::(zeroD.map bcD++[.p (.v (.slice none 0 0)),.p (.v (.slice none 0 0)),.p (.v (.slice none 0 0))])),[]⟩ (fun _=>false):=lop_build5 ho hF hz g0 g1 g2 g3 g4 h1 hb hd
namespace T4
theorem lopC {C:Ctx} {o:Oper} {σ:St} {e:Eff} {ro:Nat→Bool} (h:LOp C o σ e ro:=by
  first|(apply lop_build5m;(focus rfl);(focus exact inferInstance);(focus exact inferInstance);(focus rfl);(focus rfl);(focus rfl);(focus rfl);(focus rfl);(focus decide);(focus rfl);(focus rfl))|exact T3.lopC|fail):LOp C o σ e ro:=h
section steps
variable {C:Ctx} {ops:Array Oper} {o:Oper} {rest:List Oper} {K:St→Prop} {σ:St} {e:Eff} {ro:Nat→Bool} {W:List (Nat × Nat)} {i:Nat}
theorem rnC {d:Nat} (hg:Guard ops σ o true:=by first|exact gd_n rfl rfl|exact gd_t rfl rfl rfl rfl|exact gd_t rfl rfl rfl (by assumption)) (hd:o.dst=some d:=by rfl) (h:LOp C o σ e ro:=by exact lopC) (hk:RunN C ops rest K (e.app (some d) σ)):RunN C ops (o::rest) K σ:=rn_any hg hd h hk
theorem rkC {d:Nat} (hg:Guard ops σ o true:=by first|exact gd_n rfl rfl|exact gd_t rfl rfl rfl rfl|exact gd_t rfl rfl rfl (by assumption)) (hd':o.dst=some d:=by rfl) (hd:dOk C o.dst=true:=by rfl) (h:LOp C o σ e ro:=by exact lopC) (hro:∀ x,ro x=true→okObj ops W i x=true:=by first|exact fun _=>ro_none|exact ro_one rfl|exact ro_k1 rfl|exact ro_one (by kernel_rfl)|exact ro_k1 (by kernel_rfl)|exact ro_kIn (by decide)) (hob:∀ p∈e.obj,(i,p.1)∈W:=by first|exact ob_none|exact ob_one (by decide)|decide) (hk:RunK C ops W (i+1) rest K (e.app (some d) σ)):RunK C ops W i (o::rest) K σ:=rk_wr hg hd' hd h hro hob hk
end steps
end T4
open T4
theorem own_w (m:Msg) (hm:m.dig.length=32):PCall Tryz.prog 80 [mV m] (mV (ownM m)):=by
 refine pcall_of Tryz.func80 rfl (fun w0 F S0 M0=>?_)
 have h32:(m.dig.map bcD).length=32:=by rw [List.length_map];exact hm
 have hz32:(zeroD.map bcD).length=32:=rfl
 by_cases q1:m.kind=1
 ·have d1:decide (m.kind=1)=true:=decide_eq_true q1
  have e:ownM m=⟨m.kind,m.frm,m.to,m.ses,m.part,m.dig,[],[],[]⟩:=by simp [ownM,q1]
  rw [e]
  clear e
  as_aux_lemma=>
   repeat' (first|refine jx14 ?_|refine jy0 ?_ ?_|exact spF|refine spQ fun hq hq'=>?_|refine spN fun hn=>?_|fail)
   exact rc1 rfl rfl rfl rfl rfl (mlen h32) (finM .nil .nil .nil) rfl
 have d1:decide (m.kind=1)=false:=decide_eq_false q1
 by_cases q2:m.kind=2
 ·have d2:decide (m.kind=2)=true:=decide_eq_true q2
  have e:ownM m=⟨m.kind,m.frm,m.to,m.ses,m.part,zeroD,m.pls,[],[]⟩:=by simp [ownM,q2]
  rw [e]
  clear e
  as_aux_lemma=>
   repeat' (first|refine jx14 ?_|refine jy0 ?_ ?_|exact spF|refine spQ fun hq hq'=>?_|refine spN fun hn=>?_|fail)
   exact rc1 rfl rfl rfl rfl rfl (mlen hz32) (finM .p .nil .nil) rfl
 have d2:decide (m.kind=2)=false:=decide_eq_false q2
 by_cases q3:m.kind=3∨m.kind=6
 ·have e:ownM m=⟨m.kind,m.frm,m.to,m.ses,m.part,zeroD,m.pls,[],m.kds⟩:=by rcases q3 with q|q<;>simp [ownM,q]
  have d3:decide (m.kind=3)=true∨(decide (m.kind=3)=false∧decide (m.kind=6)=true):=by
   by_cases q:m.kind=3
   ·exact .inl (decide_eq_true q)
   ·exact .inr ⟨decide_eq_false q,decide_eq_true (q3.resolve_left q)⟩
  rw [e]
  clear e q3
  rcases d3 with d3 | ⟨d3,d6⟩
  all_goals
   repeat' (first|refine jx14 ?_|refine jy0 ?_ ?_|exact spF|refine spQ fun hq hq'=>?_|refine spN fun hn=>?_|fail)
   refine aws_draws [(5,3),(7,3)] mixed (by kernel_rfl) ?_
   repeat' (first|refine jx15 ?_|refine jy1 ?_ ?_|exact spF|refine spQ fun hq hq'=>?_|fail)
   as_aux_lemma=>
    repeat' (first|refine jx14 ?_|refine jy0 ?_ ?_|exact spF|refine spQ fun hq hq'=>?_|refine spN fun hn=>?_|fail)
    exact rc1 rfl rfl rfl rfl rfl (mlen hz32) (finM .p .nil .p) rfl
 have d3:decide (m.kind=3)=false:=decide_eq_false fun q=>q3 (.inl q)
 have d6:decide (m.kind=6)=false:=decide_eq_false fun q=>q3 (.inr q)
 by_cases q5:m.kind=5
 ·have d5:decide (m.kind=5)=true:=decide_eq_true q5
  have e:ownM m=⟨m.kind,m.frm,m.to,m.ses,m.part,zeroD,m.pls,m.dgs,[]⟩:=by simp [ownM,q5]
  rw [e]
  clear e
  repeat' (first|refine jx14 ?_|refine jy0 ?_ ?_|exact spF|refine spQ fun hq hq'=>?_|refine spN fun hn=>?_|fail)
  refine aws_draws [(5,3),(7,3)] mixed (by kernel_rfl) ?_
  repeat' (first|refine jx15 ?_|refine jy1 ?_ ?_|exact spF|refine spQ fun hq hq'=>?_|fail)
  as_aux_lemma=>
   repeat' (first|refine jx14 ?_|refine jy0 ?_ ?_|exact spF|refine spQ fun hq hq'=>?_|refine spN fun hn=>?_|fail)
   exact rc1 rfl rfl rfl rfl rfl (mlen hz32) (finM .p .p .nil) rfl
 have d5:decide (m.kind=5)=false:=decide_eq_false q5
 by_cases q7:m.kind=7
 ·have d7:decide (m.kind=7)=true:=decide_eq_true q7
  have e:ownM m=⟨m.kind,m.frm,m.to,0,0,zeroD,[],[],m.kds⟩:=by simp [ownM,q7]
  rw [e]
  clear e
  repeat' (first|refine jx14 ?_|refine jy0 ?_ ?_|exact spF|refine spQ fun hq hq'=>?_|refine spN fun hn=>?_|fail)
  refine aws_draws [(3,3),(5,3),(7,3)] mixed (by kernel_rfl) ?_
  repeat' (first|refine jx15 ?_|refine jy1 ?_ ?_|exact spF|refine spQ fun hq hq'=>?_|fail)
  as_aux_lemma=>
   repeat' (first|refine jx14 ?_|refine jy0 ?_ ?_|exact spF|refine spQ fun hq hq'=>?_|refine spN fun hn=>?_|fail)
   exact rc1 rfl rfl rfl rfl rfl (mlen hz32) (finM .nil .nil .p) rfl
 have d7:decide (m.kind=7)=false:=decide_eq_false q7
 have e:ownM m=⟨m.kind,m.frm,m.to,m.ses,m.part,zeroD,[],[],[]⟩:=by simp [ownM,q1,q2,q5,q7,show ¬ m.kind=3 from fun q=>q3 (.inl q),show ¬ m.kind=6 from fun q=>q3 (.inr q)]
 rw [e]
 clear e
 as_aux_lemma=>
  repeat' (first|refine jx14 ?_|refine jy0 ?_ ?_|exact spF|refine spQ fun hq hq'=>?_|refine spN fun hn=>?_|fail)
  exact rc1 rfl rfl rfl rfl rfl (mlen hz32) (finM .nil .nil .nil) rfl
def sesF (s p:Int):Bool:=decide (1≤s)&&(decide (s≤1099511627776)&&(decide (0≤p)&&decide (p < 8)))
theorem session_w (m:Msg):PCall Tryz.prog 78 [mV m] (.p (.b (sesF m.ses m.part))):=by
 refine pcall_of Tryz.func78 rfl (fun w0 F S0 M0=>?_)
 unfold sesF
 cases d1:decide (1≤m.ses) with
 | false=>
  as_aux_lemma=>
   repeat' (first|refine jx5 ?_|refine jy0 ?_ ?_|exact spF|refine spQ fun hq hq'=>?_|refine spN fun hn=>?_|fail)
   exact rt1 rfl rfl finS_p rfl
 | true=>
  cases d2:decide (m.ses≤1099511627776) with
  | false=>
   as_aux_lemma=>
    repeat' (first|refine jx5 ?_|refine jy0 ?_ ?_|exact spF|refine spQ fun hq hq'=>?_|refine spN fun hn=>?_|fail)
    exact rt1 rfl rfl finS_p rfl
  | true=>
   cases d3:decide (0≤m.part) with
   | false=>
    as_aux_lemma=>
     repeat' (first|refine jx5 ?_|refine jy0 ?_ ?_|exact spF|refine spQ fun hq hq'=>?_|refine spN fun hn=>?_|fail)
     exact rt1 rfl rfl finS_p rfl
   | true=>
    rw [Bool.true_and,Bool.true_and,Bool.true_and]
    as_aux_lemma=>
     repeat' (first|refine jx5 ?_|refine jy0 ?_ ?_|exact spF|refine spQ fun hq hq'=>?_|refine spN fun hn=>?_|fail)
     exact rt1 rfl rfl finS_p rfl
end Go.Proofs.YtcbhmngagibhmaaGreat.Wi
namespace Go.Proofs.YtcbhmngagibhmaaGreat.Wi
open Go Go.RowKit Go.Aw Go.Aw.Cart Go.Aw.Tree Go.Proofs.YtcbhmngagibhmaaGreat.Ca Go.Proofs.YtcbhmngagibhmaaGreat.Rg
set_option linter.unusedVariables false
set_option linter.unusedSimpArgs false
set_option maxRecDepth 8000
set_option maxHeartbeats 4000000
def atLeaf (k:Kd) (p:Int):Bool:=decide (leafOf p=(leafF k.1:Int))
def wrongK (m:Msg) (k:Kd):Bool:=!keyR k.1||(decide ((partF k.1:Int)≠m.part)||!(m.pls.any (atLeaf k)))
def withinM (m:Msg):Bool:=keysF m.kds&&!(m.kds.any (wrongK m))
def bodyM (m:Msg):Bool:=
 if m.kind=1∨m.kind=4 then true
 else if m.kind=2 then lvlF m.pls 1
 else if m.kind=3∨m.kind=6 then lvlF m.pls 2&&withinM m
 else if m.kind=5 then (lvlF m.pls 0||lvlF m.pls 1)&&decide ((m.dgs.length:Int)=4 * m.pls.length)
 else if m.kind=7 then decide ((m.kds.length:Int)=1)&&(keysF m.kds&&keyR (m.kds.getD 0 default).1)
 else false
def rightM (m:Msg):Bool:=bodyM m&&((decide (m.kind=7)||sesF m.ses m.part)&&(decide (1≤m.frm∧m.frm≤8)&&(decide (1≤m.to∧m.to≤8)&&(decide (m.frm≠m.to)&&sameM m (ownM m)))))
end Go.Proofs.YtcbhmngagibhmaaGreat.Wi
