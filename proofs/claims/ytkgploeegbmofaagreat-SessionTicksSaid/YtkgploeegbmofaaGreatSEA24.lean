/- messages: lists compared and looked through; places of a level -/
import Derived.Test.YtkgploeegbmofaaGreatSEA17
import Derived.Test.YtkgploeegbmofaaGreatSEA22
import Derived.Test.YtkgploeegbmofaaGreatSEA23
namespace Go.Aw
open Go Go.RowKit
theorem lop_callv2 {C:Ctx} {o:Oper} {σ:St} {f:FuncId} {x x0 x1:Operand} {ts:Array TypeId} {caps:List PVal} {a0 a1 r:AV} {pre:Prop} (ho:o.op=.call ⟨.value x,#[x0,x1],ts⟩) (hx:σ.look x=.p (.fnv f caps)) (hfn:FnT C.P f) (h0:σ.look x0=a0) (h1:σ.look x1=a1) (hp:PureAVs [a0,a1]) (hc:PC C.P f ([a0,a1]++caps.map .p) pre r) (hpre:pre) (hd:dOk C o.dst=true):LOp C o σ ⟨r,[]⟩ (fun _=>false):=
 lop_callv ho hfn hx (.cons h0 (.cons h1 .nil)) hp (hc.call hpre) hd
end Go.Aw
namespace Go.Proofs.YtkgploeegbmofaaGreat.Wi
open Go Go.RowKit Go.Aw Go.Aw.Cart Go.Aw.Tree Go.Proofs.YtkgploeegbmofaaGreat.Ca Go.Proofs.YtkgploeegbmofaaGreat.Rg
set_option linter.unusedVariables false
set_option linter.unusedSimpArgs false
set_option maxRecDepth 8000
set_option maxHeartbeats 4000000
abbrev iRw (n:Int):List PVal:=[PVal.i n]
abbrev dRw (d:List Nat):List PVal:=d.map fun n:Nat=>PVal.k .u8 (n:Int)
def idxN (p:Int→Bool) (l:List Int) (k:Nat):Nat→Int
 | 0 => -1
 | n+1=>if p (l.getD k default)=true then k else idxN p l (k+1) n
theorem idxN_any {p:Int→Bool} {l:List Int}:∀ (n k:Nat),k+n=l.length→decide (0≤idxN p l k n)=(l.drop k).any p
 | 0,k,h=>by rw [List.drop_eq_nil_of_le (by omega)];rfl
 | n+1,k,h=>by
  have hk:k < l.length:=by omega
  have e:l.drop k=l.getD k default::l.drop (k+1):=by
   rw [List.getD_eq_getElem?_getD,List.getElem?_eq_getElem hk];exact List.drop_eq_getElem_cons hk
  rw [idxN,e,List.any_cons,← idxN_any n (k+1) (by omega)]
  by_cases hp:p (l.getD k default)=true
  ·rw [if_pos hp,hp];exact decide_eq_true (by omega)
  ·rw [if_neg hp,Bool.eq_false_iff.2 hp,Bool.false_or]
theorem idxK_any {p:Kd→Bool} {l:List Kd}:decide (0≤idxK p l 0 l.length)=l.any p:=by
 rcases idxK_found (p:=p) (l:=l) l.length 0 (by omega) with ⟨h1,h2⟩ | ⟨i,h1,_,h3,h4,_⟩
 ·rw [h1,decide_eq_false (by omega)]
  symm
  rw [List.any_eq_false]
  intro e he
  obtain ⟨j,hj,rfl⟩:=getD_mem he
  rw [h2 j (Nat.zero_le _) hj];simp
 ·rw [h1,decide_eq_true (by omega)]
  symm
  rw [List.any_eq_true]
  exact ⟨l.getD i default,by rw [getD_at h3];exact List.getElem_mem _,h4⟩
instance kdsDec (a b:List Kd):Decidable (a=b):=by
 letI:DecidableEq Kd:=fun x y=>inferInstance
 exact List.hasDecEq a b
namespace T2
theorem lopC {C:Ctx} {o:Oper} {σ:St} {e:Eff} {ro:Nat→Bool} (h:LOp C o σ e ro:=by
  first|(apply lop_callv2;(focus rfl);(focus rfl);(focus assumption);(focus first|exact lk_o rfl|exact lk_a rfl);(focus first|exact lk_o rfl|exact lk_a rfl);(focus exact inferInstance);(focus exact inferInstance);(focus exact True.intro);(focus rfl))|exact B1.lopC|exact T1.lopC|fail):LOp C o σ e ro:=h
section steps
variable {C:Ctx} {ops:Array Oper} {o:Oper} {rest:List Oper} {K:St→Prop} {σ:St} {e:Eff} {ro:Nat→Bool} {W:List (Nat × Nat)} {i:Nat}
theorem rnC {d:Nat} (hg:Guard ops σ o true:=by first|exact gd_n rfl rfl|exact gd_t rfl rfl rfl rfl|exact gd_t rfl rfl rfl (by assumption)) (hd:o.dst=some d:=by rfl) (h:LOp C o σ e ro:=by exact lopC) (hk:RunN C ops rest K (e.app (some d) σ)):RunN C ops (o::rest) K σ:=rn_any hg hd h hk
theorem rkC {d:Nat} (hg:Guard ops σ o true:=by first|exact gd_n rfl rfl|exact gd_t rfl rfl rfl rfl|exact gd_t rfl rfl rfl (by assumption)) (hd':o.dst=some d:=by rfl) (hd:dOk C o.dst=true:=by rfl) (h:LOp C o σ e ro:=by exact lopC) (hro:∀ x,ro x=true→okObj ops W i x=true:=by first|exact fun _=>ro_none|exact ro_one rfl|exact ro_k1 rfl|exact ro_one (by kernel_rfl)|exact ro_k1 (by kernel_rfl)|exact ro_kIn (by decide)) (hob:∀ p∈e.obj,(i,p.1)∈W:=by first|exact ob_none|exact ob_one (by decide)|decide) (hk:RunK C ops W (i+1) rest K (e.app (some d) σ)):RunK C ops W i (o::rest) K σ:=rk_wr hg hd' hd h hro hob hk
end steps
end T2
open T2
theorem indexFuncN_w (f:FuncId) (caps:List PVal) (hf:FnT Tryz.prog f) (p:Int→Bool) (l:List Int) (ex:Bool) (h:l.length≤1000000000) (hp:∀ e,PCall Tryz.prog f ([AV.p (PVal.i e)]++caps.map .p) (.p (.b (p e)))):PCall Tryz.prog 155 [.p (.sl 1 (l.map iRw) ex),.p (.fnv f caps)] (.p (.i (idxN p l 0 l.length))):=by
 refine pcall_of Tryz.func155 rfl (fun w0 F S0 M0=>?_)
 haveI:∀ e,PC Tryz.prog f ([AV.p (PVal.i e)]++caps.map .p) True (.p (.b (p e))):=fun e=>⟨fun _=>hp e⟩
 obtain ⟨A,hA⟩:∃ A,A=idxN p l 0 l.length:=⟨_,rfl⟩
 rw [← hA]
 repeat' (first|refine jx5 ?_|refine jy0 ?_ ?_|exact spF|refine spQ fun hq hq'=>?_|refine spN fun hn=>?_|fail)
 refine aws_loopS [4,5,8,9,10,11,12,13,14,15,16,17,18] [] (fun (i:Nat)=>[(8,.p (.i i))]) (fun _=>[]) (fun i=>i≤l.length∧A=idxN p l i (l.length - i)) (fun i=>l.length - i) 0 ⟨Nat.zero_le _,hA⟩ (by exact knA) (by exact knA) ?_
 rintro i β γ ⟨hi,hx⟩
 by_cases hil:i < l.length
 ·have hlt:decide ((i:Int) < l.length)=true:=decide_eq_true (by omega)
  rw [show l.length - i=(l.length - (i+1))+1 by omega,idxN] at hx
  cases hv:p (l.getD (i:Int).toNat default) with
  | true=>
   have hv':=hv
   rw [Int.toNat_natCast] at hv'
   rw [if_pos hv'] at hx
   rw [hx]
   as_aux_lemma=>
    repeat' (first|refine jx5 ?_|refine jy0 ?_ ?_|exact spF|refine spQ fun hq hq'=>?_|refine spN fun hn=>?_|fail)
    exact rt1 rfl rfl finS_p rfl
  | false=>
   have hv':=hv
   rw [Int.toNat_natCast] at hv'
   rw [if_neg (by rw [hv'];simp)] at hx
   as_aux_lemma=>
    repeat' (first|refine jx5 ?_|refine jy0 ?_ ?_|exact spF|refine spQ fun hq hq'=>?_|refine spN fun hn=>?_|fail)
    exact ⟨i+1,_,by omega,⟨by omega,hx⟩,.refl,by exact frA⟩
 ·have hlt:decide ((i:Int) < l.length)=false:=decide_eq_false (by omega)
  rw [show l.length - i=0 by omega,idxN] at hx
  rw [hx]
  as_aux_lemma=>
   repeat' (first|refine jx5 ?_|refine jy0 ?_ ?_|exact spF|refine spQ fun hq hq'=>?_|refine spN fun hn=>?_|fail)
   exact rt1 rfl rfl finS_p rfl
theorem containsFuncN_w (f:FuncId) (caps:List PVal) (hf:FnT Tryz.prog f) (p:Int→Bool) (l:List Int) (ex:Bool) (h:l.length≤1000000000) (hp:∀ e,PCall Tryz.prog f ([AV.p (PVal.i e)]++caps.map .p) (.p (.b (p e)))):PCall Tryz.prog 116 [.p (.sl 1 (l.map iRw) ex),.p (.fnv f caps)] (.p (.b (l.any p))):=by
 refine pcall_of Tryz.func116 rfl (fun w0 F S0 M0=>?_)
 haveI:PC Tryz.prog 155 [.p (.sl 1 (l.map iRw) ex),.p (.fnv f caps)] True (.p (.i (idxN p l 0 l.length))):=⟨fun _=>indexFuncN_w f caps hf p l ex h hp⟩
 as_aux_lemma=>
  repeat' (first|refine jx5 ?_|refine jy0 ?_ ?_|exact spF|refine spQ fun hq hq'=>?_|refine spN fun hn=>?_|fail)
  refine rt1 rfl rfl finS_p (rb ?_)
  have:=idxN_any (p:=p) (l:=l) l.length 0 (by omega)
  rw [List.drop_zero] at this
  exact this.symm
theorem containsFuncK_w (f:FuncId) (caps:List PVal) (hf:FnT Tryz.prog f) (p:Kd→Bool) (l:List Kd) (ex:Bool) (h:l.length≤1000000000) (hp:∀ e∈l,PCall Tryz.prog f ([kV e]++caps.map .p) (.p (.b (p e)))):PCall Tryz.prog 117 [.p (.sl 10 (l.map kR) ex),.p (.fnv f caps)] (.p (.b (l.any p))):=by
 refine pcall_of Tryz.func117 rfl (fun w0 F S0 M0=>?_)
 haveI:PC Tryz.prog 140 [.p (.sl 10 (l.map kR) ex),.p (.fnv f caps)] True (.p (.i (idxK p l 0 l.length))):=⟨fun _=>indexFuncK_w f caps hf p l ex h hp⟩
 as_aux_lemma=>
  repeat' (first|refine jx5 ?_|refine jy0 ?_ ?_|exact spF|refine spQ fun hq hq'=>?_|refine spN fun hn=>?_|fail)
  exact rt1 rfl rfl finS_p (rb idxK_any.symm)
theorem list_eq_of {α:Type} [Inhabited α] {a b:List α} (hl:a.length=b.length) (h:∀ j,j < a.length→a.getD j default=b.getD j default):a=b:=
 List.ext_getElem hl fun j h1 h2=>by
  have:=h j h1
  rwa [List.getD_eq_getElem?_getD,List.getD_eq_getElem?_getD,List.getElem?_eq_getElem h1,List.getElem?_eq_getElem h2] at this
theorem equalN_w (a b:List Int) (ex ey:Bool) (h:a.length≤1000000000):PCall Tryz.prog 64 [.p (.sl 1 (a.map iRw) ex),.p (.sl 1 (b.map iRw) ey)] (.p (.b (decide (a=b)))):=by
 refine pcall_of Tryz.func64 rfl (fun w0 F S0 M0=>?_)
 by_cases hl:a.length=b.length
 ·have d1:decide ((a.length:Int)≠(b.length:Int))=false:=decide_eq_false (by omega)
  repeat' (first|refine jx6 ?_|refine jy0 ?_ ?_|exact spF|refine spQ fun hq hq'=>?_|refine spN fun hn=>?_|fail)
  refine aws_loopS [4,5,13,14,15,16,17,18,19,20,21,22,23,24,25] [] (fun (i:Nat)=>[(13,.p (.i i))]) (fun _=>[]) (fun i=>i≤a.length∧∀ j,j < i→a.getD j default=b.getD j default) (fun i=>a.length - i) 0 ⟨Nat.zero_le _,fun j hj=>absurd hj (Nat.not_lt_zero _)⟩ (by exact knA) (by exact knA) ?_
  rintro i β γ ⟨hi,hx⟩
  by_cases hil:i < a.length
  ·have hlt:decide ((i:Int) < (a.length:Int))=true:=decide_eq_true (by omega)
   have hib:(i:Int) < (b.length:Int):=by omega
   by_cases hq:a.getD (i:Int).toNat default=b.getD (i:Int).toNat default
   ·have d2:decide (a.getD (i:Int).toNat default≠b.getD (i:Int).toNat default)=false:=decide_eq_false fun q=>q hq
    rw [Int.toNat_natCast] at hq
    repeat' (first|refine jx6 ?_|refine jy0 ?_ ?_|exact spF|refine spQ fun hq hq'=>?_|refine spN fun hn=>?_|fail)
    refine ⟨i+1,_,by omega,⟨by omega,fun j hj=>?_⟩,.refl,by exact frA⟩
    by_cases ej:j=i
    ·rw [ej];exact hq
    ·exact hx j (by omega)
   ·have d2:decide (a.getD (i:Int).toNat default≠b.getD (i:Int).toNat default)=true:=decide_eq_true hq
    rw [decide_eq_false (show ¬ a=b from fun q=>hq (by rw [q]))]
    as_aux_lemma=>
     repeat' (first|refine jx6 ?_|refine jy0 ?_ ?_|exact spF|refine spQ fun hq hq'=>?_|refine spN fun hn=>?_|fail)
     exact rt1 rfl rfl finS_p rfl
  ·have hlt:decide ((i:Int) < (a.length:Int))=false:=decide_eq_false (by omega)
   rw [decide_eq_true (list_eq_of hl fun j hj=>hx j (by omega))]
   as_aux_lemma=>
    repeat' (first|refine jx6 ?_|refine jy0 ?_ ?_|exact spF|refine spQ fun hq hq'=>?_|refine spN fun hn=>?_|fail)
    exact rt1 rfl rfl finS_p rfl
 ·have d1:decide ((a.length:Int)≠(b.length:Int))=true:=decide_eq_true (by omega)
  rw [decide_eq_false (show ¬ a=b from fun q=>hl (by rw [q]))]
  as_aux_lemma=>
   repeat' (first|refine jx6 ?_|refine jy0 ?_ ?_|exact spF|refine spQ fun hq hq'=>?_|refine spN fun hn=>?_|fail)
   exact rt1 rfl rfl finS_p rfl
theorem equalD_w (a b:List (List Nat)) (ex ey:Bool) (h:a.length≤1000000000) (ha:∀ d∈a,d.length=32) (hb:∀ d∈b,d.length=32):PCall Tryz.prog 82 [.p (.sl 32 (a.map dRw) ex),.p (.sl 32 (b.map dRw) ey)] (.p (.b (decide (a=b)))):=by
 refine pcall_of Tryz.func82 rfl (fun w0 F S0 M0=>?_)
 by_cases hl:a.length=b.length
 ·have d1:decide ((a.length:Int)≠(b.length:Int))=false:=decide_eq_false (by omega)
  repeat' (first|refine jx6 ?_|refine jy0 ?_ ?_|exact spF|refine spQ fun hq hq'=>?_|refine spN fun hn=>?_|fail)
  refine aws_loopS [4,5,13,14,15,16,17,18,19,20,21,22,23,24,25] [] (fun (i:Nat)=>[(13,.p (.i i))]) (fun _=>[]) (fun i=>i≤a.length∧∀ j,j < i→a.getD j default=b.getD j default) (fun i=>a.length - i) 0 ⟨Nat.zero_le _,fun j hj=>absurd hj (Nat.not_lt_zero _)⟩ (by exact knA) (by exact knA) ?_
  rintro i β γ ⟨hi,hx⟩
  by_cases hil:i < a.length
  ·have hlt:decide ((i:Int) < (a.length:Int))=true:=decide_eq_true (by omega)
   have hib:(i:Int) < (b.length:Int):=by omega
   have ei:(i:Int).toNat=i:=Int.toNat_natCast i
   have l1:(a.getD (i:Int).toNat default).length=32:=ha _ (by rw [ei,getD_at hil];exact List.getElem_mem _)
   have l2:(b.getD (i:Int).toNat default).length=32:=hb _ (by rw [ei,getD_at (by omega)];exact List.getElem_mem _)
   by_cases hq:a.getD (i:Int).toNat default=b.getD (i:Int).toNat default
   ·have d2:(!decide (a.getD (i:Int).toNat default=b.getD (i:Int).toNat default))=false:=by rw [decide_eq_true hq];rfl
    rw [Int.toNat_natCast] at hq
    repeat' (first|refine jx6 ?_|refine jy0 ?_ ?_|exact spF|refine spQ fun hq hq'=>?_|refine spN fun hn=>?_|fail)
    refine ⟨i+1,_,by omega,⟨by omega,fun j hj=>?_⟩,.refl,by exact frA⟩
    by_cases ej:j=i
    ·rw [ej];exact hq
    ·exact hx j (by omega)
   ·have d2:(!decide (a.getD (i:Int).toNat default=b.getD (i:Int).toNat default))=true:=by rw [decide_eq_false hq];rfl
    rw [decide_eq_false (show ¬ a=b from fun q=>hq (by rw [q]))]
    as_aux_lemma=>
     repeat' (first|refine jx6 ?_|refine jy0 ?_ ?_|exact spF|refine spQ fun hq hq'=>?_|refine spN fun hn=>?_|fail)
     exact rt1 rfl rfl finS_p rfl
  ·have hlt:decide ((i:Int) < (a.length:Int))=false:=decide_eq_false (by omega)
   rw [decide_eq_true (list_eq_of hl fun j hj=>hx j (by omega))]
   as_aux_lemma=>
    repeat' (first|refine jx6 ?_|refine jy0 ?_ ?_|exact spF|refine spQ fun hq hq'=>?_|refine spN fun hn=>?_|fail)
    exact rt1 rfl rfl finS_p rfl
 ·have d1:decide ((a.length:Int)≠(b.length:Int))=true:=decide_eq_true (by omega)
  rw [decide_eq_false (show ¬ a=b from fun q=>hl (by rw [q]))]
  as_aux_lemma=>
   repeat' (first|refine jx6 ?_|refine jy0 ?_ ?_|exact spF|refine spQ fun hq hq'=>?_|refine spN fun hn=>?_|fail)
   exact rt1 rfl rfl finS_p rfl
theorem same1_w (x y:Kd) (hx:KdI x) (hy:KdI y) (hf:x.2.2.length≤1000000000):PCall Tryz.prog 80 ([kV x,kV y]++([]:List PVal).map .p) (.p (.b (decide (x=y)))):=by
 refine pcall_of Tryz.func80 rfl (fun w0 F S0 M0=>?_)
 have k1:=hx.key
 have k2:=hy.key
 have e:decide (x=y)=(decide (x.1=y.1)&&sameF x.2.1 y.2.1 x.2.2 y.2.2):=by
  obtain ⟨a,v,l⟩:=x
  obtain ⟨b,w,m⟩:=y
  rw [Bool.eq_iff_iff]
  simp [sameF]
 rw [e]
 have c1:=same_w x.2.1 y.2.1 x.2.2 y.2.2 false false hx.vec.1 hy.vec.1 hf
 generalize sameF x.2.1 y.2.1 x.2.2 y.2.2=s at c1
 haveI:PC Tryz.prog 81 [cV x.2.1 x.2.2 false,cV y.2.1 y.2.2 false] True (.p (.b s)):=⟨fun _=>c1⟩
 by_cases hk:x.1=y.1
 ·have d1:decide (x.1=y.1)=true:=decide_eq_true hk
  rw [d1,Bool.true_and]
  as_aux_lemma=>
   repeat' (first|refine jx5 ?_|refine jy0 ?_ ?_|exact spF|refine spQ fun hq hq'=>?_|refine spN fun hn=>?_|fail)
   exact rt1 rfl rfl finS_p rfl
 ·have d1:decide (x.1=y.1)=false:=decide_eq_false hk
  rw [d1,Bool.false_and]
  as_aux_lemma=>
   repeat' (first|refine jx5 ?_|refine jy0 ?_ ?_|exact spF|refine spQ fun hq hq'=>?_|refine spN fun hn=>?_|fail)
   exact rt1 rfl rfl finS_p rfl
theorem equalK_w (a b:List Kd) (ex ey:Bool) (h:a.length≤1000000000) (ha:∀ k∈a,KdI k) (hb:∀ k∈b,KdI k) (hf:∀ k∈a,k.2.2.length≤1000000000):PCall Tryz.prog 83 [.p (.sl 10 (a.map kR) ex),.p (.sl 10 (b.map kR) ey),.p (.fnv 80 [])] (.p (.b (decide (a=b)))):=by
 refine pcall_of Tryz.func83 rfl (fun w0 F S0 M0=>?_)
 have hfn:FnT Tryz.prog 80:=inferInstance
 by_cases hl:a.length=b.length
 ·have d1:decide ((a.length:Int)≠(b.length:Int))=false:=decide_eq_false (by omega)
  repeat' (first|refine jx6 ?_|refine jy0 ?_ ?_|exact spF|refine spQ fun hq hq'=>?_|refine spN fun hn=>?_|fail)
  refine aws_loopS [6,7,8,9,17,18,19,20,21,22,23,24,25,26,27,28,29,30,31] [8,9] (fun (x:Nat × Option MO × Option MO)=>[(17,.p (.i x.1))]) (fun x=>[(8,(x.1,x.2.1)),(9,(x.1,x.2.2))]) (fun x=>x.1≤a.length∧∀ j,j < x.1→a.getD j default=b.getD j default) (fun x=>a.length - x.1) (0,none,none) ⟨Nat.zero_le _,fun j hj=>absurd hj (Nat.not_lt_zero _)⟩ (by exact knA) (by exact knA) ?_
  rintro ⟨i,m8,m9⟩ β γ ⟨hi,hx⟩
  dsimp only at hi hx ⊢
  by_cases hil:i < a.length
  ·have hlt:decide ((i:Int) < (a.length:Int))=true:=decide_eq_true (by omega)
   have hib:(i:Int) < (b.length:Int):=by omega
   have ei:(i:Int).toNat=i:=Int.toNat_natCast i
   have h1:a.getD (i:Int).toNat default∈a:=by rw [ei,getD_at hil];exact List.getElem_mem _
   have h2:b.getD (i:Int).toNat default∈b:=by rw [ei,getD_at (by omega)];exact List.getElem_mem _
   have c1:=same1_w _ _ (ha _ h1) (hb _ h2) (hf _ h1)
   by_cases hq:a.getD (i:Int).toNat default=b.getD (i:Int).toNat default
   ·rw [decide_eq_true hq] at c1
    haveI:PC Tryz.prog 80 ([kV (a.getD (i:Int).toNat default),kV (b.getD (i:Int).toNat default)]++([]:List PVal).map .p) True (.p (.b true)):=⟨fun _=>c1⟩
    rw [Int.toNat_natCast] at hq
    clear c1 h1 h2
    repeat' (first|refine jx6 ?_|refine jy0 ?_ ?_|exact spF|refine spQ fun hq hq'=>?_|refine spN fun hn=>?_|fail)
    refine ⟨(i+1,_,_),_,by dsimp only;omega,⟨by dsimp only;omega,fun j hj=>?_⟩,.refl,by exact frA⟩
    dsimp only at hj
    by_cases ej:j=i
    ·rw [ej];exact hq
    ·exact hx j (by omega)
   ·rw [decide_eq_false hq] at c1
    haveI:PC Tryz.prog 80 ([kV (a.getD (i:Int).toNat default),kV (b.getD (i:Int).toNat default)]++([]:List PVal).map .p) True (.p (.b false)):=⟨fun _=>c1⟩
    rw [decide_eq_false (show ¬ a=b from fun q=>hq (by rw [q]))]
    clear c1 h1 h2
    as_aux_lemma=>
     repeat' (first|refine jx6 ?_|refine jy0 ?_ ?_|exact spF|refine spQ fun hq hq'=>?_|refine spN fun hn=>?_|fail)
     exact rt1 rfl rfl finS_p rfl
  ·have hlt:decide ((i:Int) < (a.length:Int))=false:=decide_eq_false (by omega)
   rw [decide_eq_true (list_eq_of hl fun j hj=>hx j (by omega))]
   as_aux_lemma=>
    repeat' (first|refine jx6 ?_|refine jy0 ?_ ?_|exact spF|refine spQ fun hq hq'=>?_|refine spN fun hn=>?_|fail)
    exact rt1 rfl rfl finS_p rfl
 ·have d1:decide ((a.length:Int)≠(b.length:Int))=true:=decide_eq_true (by omega)
  rw [decide_eq_false (show ¬ a=b from fun q=>hl (by rw [q]))]
  as_aux_lemma=>
   repeat' (first|refine jx6 ?_|refine jy0 ?_ ?_|exact spF|refine spQ fun hq hq'=>?_|refine spN fun hn=>?_|fail)
   exact rt1 rfl rfl finS_p rfl
def lvlAt (n:Int) (l:List Int) (i:Nat):Bool:=decide (levelF (l.getD i default)=n)&&(decide (i=0)||decide (l.getD (i - 1) default < l.getD i default))
def lvlF (l:List Int) (n:Int):Bool:=decide ((∀ i,i < l.length→lvlAt n l i=true)∧0 < l.length)
theorem level_w (l:List Int) (ex:Bool) (n:Int) (hl:l.length≤9223372036854775807):PCall Tryz.prog 71 [.p (.sl 1 (l.map iRw) ex),.p (.i n)] (.p (.b (lvlF l n))):=by
 refine pcall_of Tryz.func71 rfl (fun w0 F S0 M0=>?_)
 haveI:∀ p:Int,PC Tryz.prog 98 [.p (.i p)] True (.p (.i (levelF p))):=fun p=>⟨fun _=>Tr.level_c p⟩
 repeat' (first|refine jx5 ?_|refine jy0 ?_ ?_|exact spF|refine spQ fun hq hq'=>?_|refine spN fun hn=>?_|fail)
 refine aws_loopS [4,5,6,9,10,11,12,13,14,15,16,17,18,19,20,21,22,23,24,25,26,27,28,29,30,31] [] (fun (i:Nat)=>[(9,.p (.i i))]) (fun _=>[]) (fun i=>i≤l.length∧∀ j,j < i→lvlAt n l j=true) (fun i=>l.length - i) 0 ⟨Nat.zero_le _,fun j hj=>absurd hj (Nat.not_lt_zero _)⟩ (by exact knA) (by exact knA) ?_
 rintro i β γ ⟨hi,hx⟩
 by_cases hil:i < l.length
 ·have hlt:decide ((i:Int) < (l.length:Int))=true:=decide_eq_true (by omega)
  have ei:(i:Int).toNat=i:=Int.toNat_natCast i
  have hbad:lvlAt n l i=false→lvlF l n=false:=fun q=>decide_eq_false fun z=>by have:=z.1 i hil;rw [q] at this;cases this
  have hgood:lvlAt n l i=true→∀ j,j < i+1→lvlAt n l j=true:=fun q j hj=>by
   by_cases e:j=i
   ·rw [e];exact q
   ·exact hx j (by omega)
  unfold lvlAt at hbad hgood
  rw [show l.getD i default=l.getD (i:Int).toNat default by rw [ei]] at hbad hgood
  by_cases h1:levelF (l.getD (i:Int).toNat default)=n
  ·have d1:decide (levelF (l.getD (i:Int).toNat default)≠n)=false:=decide_eq_false fun q=>q h1
   rw [decide_eq_true h1,Bool.true_and] at hbad hgood
   by_cases h0:i=0
   ·have d2:decide (0 < (i:Int))=false:=decide_eq_false (by omega)
    rw [decide_eq_true h0,Bool.true_or] at hgood
    as_aux_lemma=>
     repeat' (first|refine jx5 ?_|refine jy0 ?_ ?_|exact spF|refine spQ fun hq hq'=>?_|refine spN fun hn=>?_|fail)
     exact ⟨i+1,_,by omega,⟨by omega,hgood rfl⟩,.refl,by exact frA⟩
   ·have d2:decide (0 < (i:Int))=true:=decide_eq_true (by omega)
    have ej:((i:Int) - 1).toNat=i - 1:=by omega
    rw [decide_eq_false h0,Bool.false_or,← ej] at hbad hgood
    by_cases h2:l.getD ((i:Int) - 1).toNat default < l.getD (i:Int).toNat default
    ·have d3:decide (l.getD (i:Int).toNat default≤l.getD ((i:Int) - 1).toNat default)=false:=decide_eq_false (by omega)
     as_aux_lemma=>
      repeat' (first|refine jx5 ?_|refine jy0 ?_ ?_|exact spF|refine spQ fun hq hq'=>?_|refine spN fun hn=>?_|fail)
      exact ⟨i+1,_,by omega,⟨by omega,hgood (decide_eq_true h2)⟩,.refl,by exact frA⟩
    ·have d3:decide (l.getD (i:Int).toNat default≤l.getD ((i:Int) - 1).toNat default)=true:=decide_eq_true (by omega)
     rw [hbad (decide_eq_false h2)]
     as_aux_lemma=>
      repeat' (first|refine jx5 ?_|refine jy0 ?_ ?_|exact spF|refine spQ fun hq hq'=>?_|refine spN fun hn=>?_|fail)
      exact rt1 rfl rfl finS_p rfl
  ·have d1:decide (levelF (l.getD (i:Int).toNat default)≠n)=true:=decide_eq_true h1
   rw [decide_eq_false h1,Bool.false_and] at hbad
   rw [hbad rfl]
   as_aux_lemma=>
    repeat' (first|refine jx5 ?_|refine jy0 ?_ ?_|exact spF|refine spQ fun hq hq'=>?_|refine spN fun hn=>?_|fail)
    exact rt1 rfl rfl finS_p rfl
 ·have hlt:decide ((i:Int) < (l.length:Int))=false:=decide_eq_false (by omega)
  have e:lvlF l n=decide (0 < (l.length:Int)):=decide_eq_decide.2 ⟨fun q=>by omega,fun q=>⟨fun j hj=>hx j (by omega),by omega⟩⟩
  rw [e]
  as_aux_lemma=>
   repeat' (first|refine jx5 ?_|refine jy0 ?_ ?_|exact spF|refine spQ fun hq hq'=>?_|refine spN fun hn=>?_|fail)
   exact rt1 rfl rfl finS_p rfl
theorem isNode_w (n:Int):PCall Tryz.prog 75 [.p (.i n)] (.p (.b (decide (1≤n∧n≤8)))):=by
 refine pcall_of Tryz.func75 rfl (fun w0 F S0 M0=>?_)
 by_cases h:1≤n
 ·have d1:decide (1≤n)=true:=decide_eq_true h
  rw [decide_eq_decide.2 (show (1≤n∧n≤8)↔n≤8 from ⟨fun q=>q.2,fun q=>⟨h,q⟩⟩)]
  as_aux_lemma=>
   repeat' (first|refine jx5 ?_|refine jy0 ?_ ?_|exact spF|refine spQ fun hq hq'=>?_|refine spN fun hn=>?_|fail)
   exact rt1 rfl rfl finS_p rfl
 ·have d1:decide (1≤n)=false:=decide_eq_false h
  rw [decide_eq_false (show ¬ (1≤n∧n≤8) from fun q=>h q.1)]
  as_aux_lemma=>
   repeat' (first|refine jx5 ?_|refine jy0 ?_ ?_|exact spF|refine spQ fun hq hq'=>?_|refine spN fun hn=>?_|fail)
   exact rt1 rfl rfl finS_p rfl
end Go.Proofs.YtkgploeegbmofaaGreat.Wi
