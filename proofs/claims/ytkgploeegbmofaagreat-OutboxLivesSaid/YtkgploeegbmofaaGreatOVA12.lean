/- packs: how the laws' arguments read -/
import Derived.Test.YtkgploeegbmofaaGreatOVA06
import Derived.Test.YtkgploeegbmofaaGreatOVA11
import Derived.Test.YtkgploeegbmofaaGreatOVA14
import Derived.Test.YtkgploeegbmofaaGreatOVA23
import Derived.Test.YtkgploeegbmofaaGreatOVA02
import Derived.Test.YtkgploeegbmofaaGreatOVA01
namespace Go.Proofs.YtkgploeegbmofaaGreat.Wi
open Go Go.RowKit Go.Aw Go.Aw.Cart Go.Proofs.YtkgploeegbmofaaGreat.Ca
set_option linter.unusedVariables false
set_option linter.unusedSimpArgs false
theorem rd_keyP:Reads Tryz.prog 9 (List Nat) (fun k=>[.v (.string (strOf k))]) (fun k=>okB k∧k.length≤9223372036854775807):=
 (reads_string inferInstance).imp' bytesOf (fun s _=>by rw [strOf_bytesOf]) (fun s h=>⟨bytesOf_ok s,by
  have e:(bytesOf s).length=s.size:=by rw [← strOf_size,strOf_bytesOf]
  have h':s.size≤2 ^ 63 - 1:=h
  omega⟩)
theorem vRow_8 {v:List Int} (h:v.length=8):vRow v=[.k .u64 (v.getD 0 default),.k .u64 (v.getD 1 default),.k .u64 (v.getD 2 default),.k .u64 (v.getD 3 default),.k .u64 (v.getD 4 default),.k .u64 (v.getD 5 default),.k .u64 (v.getD 6 default),.k .u64 (v.getD 7 default)]:=by
 match v,h with
 | [a0,a1,a2,a3,a4,a5,a6,a7],_=>rfl
theorem rd_kd:Reads Tryz.prog 123 Kd (fun k=>kR k) KdI:=
 (reads_struct (inferInstance:TI Tryz.prog 123 _ _ _)
  (readsFs_cons (inferInstance:TI Tryz.prog 9 _ _ _) rd_keyP (readsFs_cons (inferInstance:TI Tryz.prog 121 _ _ _) rd_cart (readsFs_nil rfl)))).imp'
  (fun x=>(x.1,x.2.1)) (fun x h=>by
   have e:=vRow_8 h.2.1.v8
   simp only [cRow,e];rfl) (fun x h=>⟨h.1.1,h.1.2,⟨h.2.1.v8,h.2.1.vb⟩,h.2.1.len⟩)
theorem rd_kds:Reads Tryz.prog 36 (List Kd) (fun l=>[.sl 10 (l.map fun k=>kR k) false]) (fun l=>l.length≤maxLen∧∀ k∈l,KdI k):=
 reads_slice inferInstance inferInstance (by decide) rd_kd
end Go.Proofs.YtkgploeegbmofaaGreat.Wi
namespace Go.Proofs.YtkgploeegbmofaaGreat.Wi
open Go Go.RowKit Go.Aw Go.Aw.Cart Go.Proofs.YtkgploeegbmofaaGreat.Ca
set_option linter.unusedVariables false
set_option linter.unusedSimpArgs false
set_option maxRecDepth 8000
set_option maxHeartbeats 4000000
abbrev kV (k:Kd):AV:=.a (kL k)
def idxK (p:Kd→Bool) (l:List Kd) (k:Nat):Nat→Int
 | 0 => -1
 | n+1=>if p (l.getD k default)=true then k else idxK p l (k+1) n
theorem idxK_found {p:Kd→Bool} {l:List Kd}:∀ (n k:Nat),k+n=l.length→(idxK p l k n = -1∧∀ i,k≤i→i < l.length→p (l.getD i default)=false)∨∃ i0:Nat,idxK p l k n=i0∧k≤i0∧i0 < l.length∧p (l.getD i0 default)=true∧∀ i,k≤i→i < i0→p (l.getD i default)=false
 | 0,k,h=>.inl ⟨rfl,fun i h1 h2=>by omega⟩
 | n+1,k,h=>by
  rw [idxK]
  by_cases hp:p (l.getD k default)=true
  ·rw [if_pos hp];exact .inr ⟨k,rfl,Nat.le_refl _,by omega,hp,fun i h1 h2=>by omega⟩
  ·rw [if_neg hp]
   have hp':=Bool.eq_false_iff.2 hp
   rcases idxK_found (p:=p) (l:=l) n (k+1) (by omega) with ⟨h1,h2⟩ | ⟨i0,h1,h2,h3,h4,h5⟩
   ·refine .inl ⟨h1,fun i a b=>?_⟩
    by_cases e:i=k
    ·rw [e];exact hp'
    ·exact h2 i (by omega) b
   ·refine .inr ⟨i0,h1,by omega,h3,h4,fun i a b=>?_⟩
    by_cases e:i=k
    ·rw [e];exact hp'
    ·exact h5 i (by omega) b
namespace WC
theorem lopC {C:Ctx} {o:Oper} {σ:St} {e:Eff} {ro:Nat→Bool} (h:LOp C o σ e ro:=by
  first|(apply lop_callv1;(focus rfl);(focus rfl);(focus assumption);(focus first|exact lk_o rfl|exact lk_a rfl);(focus exact inferInstance);(focus exact inferInstance);(focus exact True.intro);(focus rfl))|(apply gBin;(focus rfl);apply lop_eqs;(focus rfl);(focus exact inferInstance);(focus rfl);(focus rfl);(focus assumption);(focus assumption);(focus rfl))|exact W9.lopC|fail):LOp C o σ e ro:=h
section steps
variable {C:Ctx} {ops:Array Oper} {o:Oper} {rest:List Oper} {K:St→Prop} {σ:St} {e:Eff} {ro:Nat→Bool} {W:List (Nat × Nat)} {i:Nat}
theorem rnC {d:Nat} (hg:Guard ops σ o true:=by first|exact gd_n rfl rfl|exact gd_t rfl rfl rfl rfl|exact gd_t rfl rfl rfl (by assumption)) (hd:o.dst=some d:=by rfl) (h:LOp C o σ e ro:=by exact lopC) (hk:RunN C ops rest K (e.app (some d) σ)):RunN C ops (o::rest) K σ:=rn_any hg hd h hk
end steps
end WC
open WC
theorem indexFuncK_w (f:FuncId) (caps:List PVal) (hf:FnT Tryz.prog f) (p:Kd→Bool) (l:List Kd) (ex:Bool) (h:l.length≤1000000000) (hp:∀ e∈l,PCall Tryz.prog f ([kV e]++caps.map .p) (.p (.b (p e)))):PCall Tryz.prog 140 [.p (.sl 10 (l.map kR) ex),.p (.fnv f caps)] (.p (.i (idxK p l 0 l.length))):=by
 refine pcall_of Tryz.func140 rfl (fun w0 F S0 M0=>?_)
 obtain ⟨A,hA⟩:∃ A,A=idxK p l 0 l.length:=⟨_,rfl⟩
 rw [← hA]
 repeat' (first|refine jx5 ?_|refine jy0 ?_ ?_|exact spF|refine spQ fun hq hq'=>?_|refine spN fun hn=>?_|fail)
 refine aws_loopS [4,5,8,9,10,11,12,13,14,15,16,17,18] [] (fun (i:Nat)=>[(8,.p (.i i))]) (fun _=>[]) (fun i=>i≤l.length∧A=idxK p l i (l.length - i)) (fun i=>l.length - i) 0 ⟨Nat.zero_le _,hA⟩ (by exact knA) (by exact knA) ?_
 rintro i β γ ⟨hi,hx⟩
 by_cases hil:i < l.length
 ·have hlt:decide ((i:Int) < l.length)=true:=decide_eq_true (by omega)
  rw [show l.length - i=(l.length - (i+1))+1 by omega,idxK] at hx
  haveI:PC Tryz.prog f ([kV (l.getD (i:Int).toNat default)]++caps.map .p) True (.p (.b (p (l.getD (i:Int).toNat default)))):=⟨fun _=>hp _ (by rw [Int.toNat_natCast,getD_at hil];exact List.getElem_mem _)⟩
  cases hv:p (l.getD (i:Int).toNat default) with
  | true=>
   have hv':=hv
   rw [Int.toNat_natCast] at hv'
   rw [if_pos hv'] at hx
   rw [hx]
   as_aux_lemma=>
    repeat' (first|refine jx5 ?_|refine jy0 ?_ ?_|exact spF|refine spQ fun hq hq'=>?_|refine spN fun hn=>?_|fail)
    exact rt1 rfl rfl finS_p rfl
  | false=>
   have hv':=hv
   rw [Int.toNat_natCast] at hv'
   rw [if_neg (by rw [hv'];simp)] at hx
   as_aux_lemma=>
    repeat' (first|refine jx5 ?_|refine jy0 ?_ ?_|exact spF|refine spQ fun hq hq'=>?_|refine spN fun hn=>?_|fail)
    exact ⟨i+1,_,by omega,⟨by omega,hx⟩,.refl,by exact frA⟩
 ·have hlt:decide ((i:Int) < l.length)=false:=decide_eq_false (by omega)
  rw [show l.length - i=0 by omega,idxK] at hx
  rw [hx]
  as_aux_lemma=>
   repeat' (first|refine jx5 ?_|refine jy0 ?_ ?_|exact spF|refine spQ fun hq hq'=>?_|refine spN fun hn=>?_|fail)
   exact rt1 rfl rfl finS_p rfl
end Go.Proofs.YtkgploeegbmofaaGreat.Wi
namespace Go.Proofs.YtkgploeegbmofaaGreat.Wi
open Go Go.RowKit Go.Aw Go.Aw.Cart Go.Proofs.YtkgploeegbmofaaGreat.Ca
set_option linter.unusedVariables false
set_option linter.unusedSimpArgs false
set_option maxRecDepth 8000
set_option maxHeartbeats 4000000
namespace WD
end WD
open WD
end Go.Proofs.YtkgploeegbmofaaGreat.Wi
namespace Go.Aw
open Go Go.RowKit
set_option linter.unusedVariables false
set_option linter.unusedSimpArgs false
def rn2 (c d:Nat):Rn:=fun k=>if k=1000 then some (c,none) else if k=1001 then some (d,none) else none
theorem OCall.two {P:Program} {f:FuncId} {args:List AV} {n nd:Nat} {mo md:MO} {r:AV} {m1 m2:Nat × Option MO} (h:OCall P f args (memL [(1000,(n,some mo)),(1001,(nd,some md))]) r (memL [(1000,m1),(1001,m2)])) (c d:Nat) (hcd:c≠d) :
  OCAt P f (args.map (AV.ren (rn2 c d))) [(c,(n,some (mo.ren (rn2 c d)))),(d,(nd,some (md.ren (rn2 c d))))] [] (r.ren (rn2 c d)) [(c,(m1.1,m1.2.map (MO.ren (rn2 c d)))),(d,(m2.1,m2.2.map (MO.ren (rn2 c d))))]:=by
 have e1:rn2 c d 1000=some (c,none):=by simp [rn2]
 have e2:rn2 c d 1001=some (d,none):=by simp [rn2]
 have e3:∀ k,k≠1000→k≠1001→rn2 c d k=none:=fun k h1 h2=>by simp [rn2,h1,h2]
 refine ocat_of (rn2 c d) (fun x=>if x=c then some (1000,none) else if x=d then some (1001,none) else none) h ?_ ?_ ?_ ?_ ?_ ?_
 ·intro k c' s
  by_cases hk:k=1000
  ·subst hk
   rw [e1]
   by_cases h1:c'=c
   ·subst h1;simp
   ·by_cases h2:c'=d
    ·subst h2;simp [h1,Ne.symm hcd,hcd]
    ·simp [h1,h2,Ne.symm h1]
  ·by_cases hkq:k=1001
   ·subst hkq
    rw [e2]
    by_cases h1:c'=c
    ·subst h1;simp [Ne.symm hcd]
    ·by_cases h2:c'=d
     ·subst h2;simp [h1]
     ·simp [h1,h2,Ne.symm h2]
   ·rw [e3 k hk hkq]
    by_cases h1:c'=c
    ·subst h1;simp [Ne.symm hk]
    ·by_cases h2:c'=d
     ·subst h2;simp [h1,Ne.symm hkq]
     ·simp [h1,h2]
 ·intro k c' hk
  by_cases h1:k=1000
  ·subst h1;rw [e1] at hk;simp at hk;subst hk;simp [memL]
  ·by_cases h2:k=1001
   ·subst h2;rw [e2] at hk;simp at hk;subst hk;simp [memL]
   ·rw [e3 k h1 h2] at hk;cases hk
 ·intro k c' n' hk
  by_cases h1:k=1000
  ·subst h1;rw [e1] at hk;simp at hk
  ·by_cases h2:k=1001
   ·subst h2;rw [e2] at hk;simp at hk
   ·rw [e3 k h1 h2] at hk;cases hk
 ·intro k hk
  have h1:k≠1000:=fun e=>by subst e;rw [e1] at hk;cases hk
  have h2:k≠1001:=fun e=>by subst e;rw [e2] at hk;cases hk
  simp [memL,h1,h2]
 ·intro c' k s hc
  by_cases h1:c'=c
  ·subst h1
   simp at hc;obtain ⟨rfl,rfl⟩:=hc
   exact ⟨by simp [kIn],fun mem=>by simp [putsM,memL]⟩
  ·by_cases h2:c'=d
   ·subst h2
    simp [h1] at hc;obtain ⟨rfl,rfl⟩:=hc
    exact ⟨by simp [kIn],fun mem=>by simp [putsM,memL,h1]⟩
   ·simp [h1,h2] at hc
 ·intro c' hc
  by_cases h1:c'=c
  ·simp [h1] at hc
  ·by_cases h2:c'=d
   ·rw [if_neg h1,if_pos h2] at hc;cases hc
   ·simp only [kIn,Bool.or_false,Bool.or_eq_false_iff]
    exact ⟨Bool.eq_false_iff.2 fun hb=>h1 (Nat.eq_of_beq_eq_true hb),Bool.eq_false_iff.2 fun hb=>h2 (Nat.eq_of_beq_eq_true hb)⟩
theorem ocall_of22 {P:Program} {f:FuncId} {fn:Func} {body:Code} {args:List AV} {r:AV} {m0 m1 k0 k1:Nat × Option MO} (hf:P.funcs[f]?=some fn) (hb:fn.body=some body)
  (h:∀ w0 F S0 M0,AWs ⟨P,w0,F,S0,max args.length fn.ntmps,none,M0⟩ [body] (RetO P fn r (kIn [(1000,m1),(1001,k1)]) (memL [(1000,m1),(1001,k1)])) ⟨fun t=>args.getD t .un,memL [(1000,m0),(1001,k0)]⟩):OCall P f args (memL [(1000,m0),(1001,k0)]) r (memL [(1000,m1),(1001,k1)]):=by
 refine ocall_of (kIn [(1000,m1),(1001,k1)]) hf hb (fun o ho=>?_) h
 have h1:o≠1000:=fun e=>by subst e;simp [kIn] at ho
 have h2:o≠1001:=fun e=>by subst e;simp [kIn] at ho
 simp [memL,h1,h2]
end Go.Aw
namespace Go.Proofs.YtkgploeegbmofaaGreat.Wi
open Go Go.RowKit Go.Aw Go.Aw.Cart Go.Proofs.YtkgploeegbmofaaGreat.Ca Go.Proofs.YtkgploeegbmofaaGreat.Rg
set_option linter.unusedVariables false
set_option linter.unusedSimpArgs false
end Go.Proofs.YtkgploeegbmofaaGreat.Wi
namespace Go.Proofs.YtkgploeegbmofaaGreat.Wi
open Go Go.RowKit Go.Aw Go.Aw.Cart Go.Proofs.YtkgploeegbmofaaGreat.Ca
set_option linter.unusedVariables false
set_option linter.unusedSimpArgs false
set_option maxRecDepth 8000
set_option maxHeartbeats 4000000
namespace B1
theorem lopC {C:Ctx} {o:Oper} {σ:St} {e:Eff} {ro:Nat→Bool} (h:LOp C o σ e ro:=by
  first|(apply lop_lend2;(focus rfl);(focus exact inferInstance);(focus rfl);(focus rfl);(focus rfl);(focus exact (List.length_map ..).symm);(focus first|exact lk_m1 rfl|exact lk_m2 rfl|exact lk_m3 rfl|exact lk_o rfl|exact lk_a2 rfl|exact lk_a3 rfl|exact lk_a4 rfl|exact lk_a1 rfl|exact lk_a5 rfl|exact lk_a6 rfl|exact lk_a7 rfl|exact lk_a8 rfl|exact lk_a rfl);(focus exact inferInstance);(focus exact inferInstance);(focus first|exact True.intro|assumption|rfl|omega|((repeat' (first|assumption|refine And.intro ?_ ?_|omega|rfl));done)|fail);(focus exact RV.v);(focus rfl))|exact WC.lopC|exact lopQ|fail):LOp C o σ e ro:=h
section steps
variable {C:Ctx} {ops:Array Oper} {o:Oper} {rest:List Oper} {K:St→Prop} {σ:St} {e:Eff} {ro:Nat→Bool} {W:List (Nat × Nat)} {i:Nat}
theorem rnC {d:Nat} (hg:Guard ops σ o true:=by first|exact gd_n rfl rfl|exact gd_t rfl rfl rfl rfl|exact gd_t rfl rfl rfl (by assumption)) (hd:o.dst=some d:=by rfl) (h:LOp C o σ e ro:=by exact lopC) (hk:RunN C ops rest K (e.app (some d) σ)):RunN C ops (o::rest) K σ:=rn_any hg hd h hk
end steps
end B1
open B1
end Go.Proofs.YtkgploeegbmofaaGreat.Wi
namespace Go.Proofs.YtkgploeegbmofaaGreat.Wi
open Go Go.RowKit Go.Aw Go.Aw.Cart Go.Proofs.YtkgploeegbmofaaGreat.Ca Go.Proofs.YtkgploeegbmofaaGreat.Rg
set_option linter.unusedVariables false
set_option linter.unusedSimpArgs false
set_option maxRecDepth 8000
set_option maxHeartbeats 4000000
open B1
theorem ent_fnc {f:FuncId}:Ent1 (.p (.v (.func (.func f) #[] #[]))) (.p (.fnv f [])):=by
 rintro μ X v ⟨rfl,_⟩
 exact ⟨[],rfl,.nil⟩
end Go.Proofs.YtkgploeegbmofaaGreat.Wi
namespace Go.Proofs.YtkgploeegbmofaaGreat.Sh
open Go Go.RowKit Go.Aw Go.Aw.Sha
set_option linter.unusedVariables false
set_option linter.unusedSimpArgs false
set_option maxRecDepth 8000
set_option maxHeartbeats 4000000
abbrev uc (n:Nat):AC:=.p (.k .u64 (n:Int))
abbrev u8c (v:V8):List AC:=[uc v.a,uc v.b,uc v.c,uc v.d,uc v.e,uc v.f,uc v.g,uc v.h]
theorem rturn_c (x k:Nat) (h:x < M∧1≤k∧k≤32):PCall Tryz.prog 217 [.p (.k .u64 (x:Int)),.p (.k .u64 (k:Int))] (.p (.k .u64 ((rotr x k:Nat):Int))):=by
 refine pcall_of Tryz.func217 rfl (fun w0 F S0 M0=>?_)
 obtain ⟨hx,hk⟩:=h
 have hm:(32+(md .u64 - k % md .u64)) % md .u64=32 - k:=by
  have:k % md .u64=k:=u64_ok (by omega)
  rw [this];show (32+(18446744073709551616 - k)) % 18446744073709551616=32 - k;omega
 repeat' (first|refine jx9 ?_|refine jy0 ?_ ?_|exact spF|refine spQ fun hq hq'=>?_|refine spN fun hn=>?_|fail)
 refine rt1 rfl rfl finS_p (ri ?_)
 rw [Int.toNat_natCast,hm,Int.toNat_natCast]
 exact congrArg Nat.cast (turn_eq hx hk).symm
instance {x:Nat} {n:Int}:PC Tryz.prog 217 [.p (.k .u64 (x:Int)),.p (.k .u64 n)] (x < M∧1≤n∧n≤32) (.p (.k .u64 ((rotr x n.toNat:Nat):Int))):=⟨fun h=>by
 have:=rturn_c x n.toNat ⟨h.1,by omega,by omega⟩
 rwa [show ((n.toNat:Nat):Int)=n by omega] at this⟩
theorem rconsts_c:PCall Tryz.prog 215 [] (.a (consts.map uc)):=by
 refine pcall_of Tryz.func215 rfl (fun w0 F S0 M0=>?_)
 repeat' (first|refine jx9 ?_|refine jy0 ?_ ?_|exact spF|refine spQ fun hq hq'=>?_|refine spN fun hn=>?_|fail)
 all_goals exact rc1 rfl rfl rfl rfl rfl rfl finL_p rfl
instance:PC Tryz.prog 215 [] True (.a (consts.map uc)):=⟨fun _=>rconsts_c⟩
end Go.Proofs.YtkgploeegbmofaaGreat.Sh
