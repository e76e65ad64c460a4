/- packs: how the laws' arguments read -/
import Derived.Test.YtcbhmngagibhmaaGreatPRA07
import Derived.Test.YtcbhmngagibhmaaGreatPRA12
import Derived.Test.YtcbhmngagibhmaaGreatPRA15
import Derived.Test.YtcbhmngagibhmaaGreatPRA28
namespace Go.Proofs.YtcbhmngagibhmaaGreat.Wi
open Go Go.RowKit Go.Aw Go.Aw.Cart Go.Proofs.YtcbhmngagibhmaaGreat.Ca
set_option linter.unusedVariables false
set_option linter.unusedSimpArgs false
theorem rd_keyP:Reads Tryz.prog 9 (List Nat) (fun k=>[.v (.string (strOf k))]) (fun k=>okB k∧k.length≤9223372036854775807):=
 (reads_string inferInstance).imp' bytesOf (fun s _=>by rw [strOf_bytesOf]) (fun s h=>⟨bytesOf_ok s,by
  have e:(bytesOf s).length=s.size:=by rw [← strOf_size,strOf_bytesOf]
  have h':s.size≤2 ^ 63 - 1:=h
  omega⟩)
theorem vRow_8 {v:List Int} (h:v.length=8):vRow v=[.k .u64 (v.getD 0 default),.k .u64 (v.getD 1 default),.k .u64 (v.getD 2 default),.k .u64 (v.getD 3 default),.k .u64 (v.getD 4 default),.k .u64 (v.getD 5 default),.k .u64 (v.getD 6 default),.k .u64 (v.getD 7 default)]:=by
 match v,h with
 | [a0,a1,a2,a3,a4,a5,a6,a7],_=>rfl
theorem rd_kd:Reads Tryz.prog 154 Kd (fun k=>kR k) KdI:=
 (reads_struct (inferInstance:TI Tryz.prog 154 _ _ _)
  (readsFs_cons (inferInstance:TI Tryz.prog 9 _ _ _) rd_keyP (readsFs_cons (inferInstance:TI Tryz.prog 152 _ _ _) rd_cart (readsFs_nil rfl)))).imp'
  (fun x=>(x.1,x.2.1)) (fun x h=>by
   have e:=vRow_8 h.2.1.v8
   simp only [cRow,e];rfl) (fun x h=>⟨h.1.1,h.1.2,⟨h.2.1.v8,h.2.1.vb⟩,h.2.1.len⟩)
theorem rd_kds:Reads Tryz.prog 26 (List Kd) (fun l=>[.sl 10 (l.map fun k=>kR k) false]) (fun l=>l.length≤maxLen∧∀ k∈l,KdI k):=
 reads_slice inferInstance inferInstance (by decide) rd_kd
end Go.Proofs.YtcbhmngagibhmaaGreat.Wi
namespace Go.Proofs.YtcbhmngagibhmaaGreat.Cr
open Go Go.RowKit Go.Aw Go.Aw.Cart Go.Aw.Ord Go.Proofs.YtcbhmngagibhmaaGreat.Ca
set_option linter.unusedVariables false
set_option linter.unusedSimpArgs false
set_option maxRecDepth 8000
set_option maxHeartbeats 4000000
theorem lopC {C:Ctx} {o:Oper} {σ:St} {e:Eff} {ro:Nat→Bool} (h:LOp C o σ e ro:=by
  first|(apply gField;(focus rfl);exact lop_fieldAddr_p rfl rfl (by decide) rfl rfl)|(apply G.lop_bst2;(focus rfl);(focus exact inferInstance);(focus exact inferInstance);(focus exact inferInstance);(focus rfl);(focus rfl);(focus rfl))|(apply lop_bst4;(focus rfl);(focus exact inferInstance);(focus exact inferInstance);(focus exact inferInstance);(focus rfl);(focus rfl);(focus rfl))|(apply lop_ap_ent;(focus rfl);(focus exact inferInstance);(focus exact inferInstance);(focus exact inferInstance);(focus rfl);(focus rfl);(focus rfl);(focus rfl);(focus rfl);(focus rfl);(focus first|(simp only [maxLen,List.length_append,List.length_cons,List.length_nil,List.length_take,List.length_drop,List.length_map];omega)|omega);(focus first|(simp only [maxLen,List.length_append,List.length_cons,List.length_nil,List.length_take,List.length_drop,List.length_map];omega)|omega);(focus rfl))|exact lopV|fail):LOp C o σ e ro:=h
section steps
variable {C:Ctx} {ops:Array Oper} {o:Oper} {rest:List Oper} {K:St→Prop} {σ:St} {e:Eff} {ro:Nat→Bool} {W:List (Nat × Nat)} {i:Nat}
theorem rnC {d:Nat} (hg:Guard ops σ o true:=by first|exact gd_n rfl rfl|exact gd_t rfl rfl rfl rfl|exact gd_t rfl rfl rfl (by assumption)) (hd:o.dst=some d:=by rfl) (h:LOp C o σ e ro:=by exact lopC) (hk:RunN C ops rest K (e.app (some d) σ)):RunN C ops (o::rest) K σ:=rn_any hg hd h hk
theorem rkC {d:Nat} (hg:Guard ops σ o true:=by first|exact gd_n rfl rfl|exact gd_t rfl rfl rfl rfl|exact gd_t rfl rfl rfl (by assumption)) (hd':o.dst=some d:=by rfl) (hd:dOk C o.dst=true:=by rfl) (h:LOp C o σ e ro:=by exact lopC) (hro:∀ x,ro x=true→okObj ops W i x=true:=by first|exact fun _=>ro_none|exact ro_one rfl|exact ro_one (by kernel_rfl)|exact ro_kIn (by decide)) (hob:∀ p∈e.obj,(i,p.1)∈W:=by first|exact ob_none|exact ob_one (by decide)|decide) (hk:RunK C ops W (i+1) rest K (e.app (some d) σ)):RunK C ops W i (o::rest) K σ:=rk_wr hg hd' hd h hro hob hk
end steps
end Go.Proofs.YtcbhmngagibhmaaGreat.Cr
namespace Go.Aw
open Go Go.RowKit
set_option linter.unusedVariables false
set_option linter.unusedSimpArgs false
def rn2 (c d:Nat):Rn:=fun k=>if k=1000 then some (c,none) else if k=1001 then some (d,none) else none
theorem OCall.two {P:Program} {f:FuncId} {args:List AV} {n nd:Nat} {mo md:MO} {r:AV} {m1 m2:Nat × Option MO} (h:OCall P f args (memL [(1000,(n,some mo)),(1001,(nd,some md))]) r (memL [(1000,m1),(1001,m2)])) (c d:Nat) (hcd:c≠d) :
  OCAt P f (args.map (AV.ren (rn2 c d))) [(c,(n,some (mo.ren (rn2 c d)))),(d,(nd,some (md.ren (rn2 c d))))] [] (r.ren (rn2 c d)) [(c,(m1.1,m1.2.map (MO.ren (rn2 c d)))),(d,(m2.1,m2.2.map (MO.ren (rn2 c d))))]:=by
 have e1:rn2 c d 1000=some (c,none):=by simp [rn2]
 have e2:rn2 c d 1001=some (d,none):=by simp [rn2]
 have e3:∀ k,k≠1000→k≠1001→rn2 c d k=none:=fun k h1 h2=>by simp [rn2,h1,h2]
 refine ocat_of (rn2 c d) (fun x=>if x=c then some (1000,none) else if x=d then some (1001,none) else none) h ?_ ?_ ?_ ?_ ?_ ?_
 ·intro k c' s
  by_cases hk:k=1000
  ·subst hk
   rw [e1]
   by_cases h1:c'=c
   ·subst h1;simp
   ·by_cases h2:c'=d
    ·subst h2;simp [h1,Ne.symm hcd,hcd]
    ·simp [h1,h2,Ne.symm h1]
  ·by_cases hkq:k=1001
   ·subst hkq
    rw [e2]
    by_cases h1:c'=c
    ·subst h1;simp [Ne.symm hcd]
    ·by_cases h2:c'=d
     ·subst h2;simp [h1]
     ·simp [h1,h2,Ne.symm h2]
   ·rw [e3 k hk hkq]
    by_cases h1:c'=c
    ·subst h1;simp [Ne.symm hk]
    ·by_cases h2:c'=d
     ·subst h2;simp [h1,Ne.symm hkq]
     ·simp [h1,h2]
 ·intro k c' hk
  by_cases h1:k=1000
  ·subst h1;rw [e1] at hk;simp at hk;subst hk;simp [memL]
  ·by_cases h2:k=1001
   ·subst h2;rw [e2] at hk;simp at hk;subst hk;simp [memL]
   ·rw [e3 k h1 h2] at hk;cases hk
 ·intro k c' n' hk
  by_cases h1:k=1000
  ·subst h1;rw [e1] at hk;simp at hk
  ·by_cases h2:k=1001
   ·subst h2;rw [e2] at hk;simp at hk
   ·rw [e3 k h1 h2] at hk;cases hk
 ·intro k hk
  have h1:k≠1000:=fun e=>by subst e;rw [e1] at hk;cases hk
  have h2:k≠1001:=fun e=>by subst e;rw [e2] at hk;cases hk
  simp [memL,h1,h2]
 ·intro c' k s hc
  by_cases h1:c'=c
  ·subst h1
   simp at hc;obtain ⟨rfl,rfl⟩:=hc
   exact ⟨by simp [kIn],fun mem=>by simp [putsM,memL]⟩
  ·by_cases h2:c'=d
   ·subst h2
    simp [h1] at hc;obtain ⟨rfl,rfl⟩:=hc
    exact ⟨by simp [kIn],fun mem=>by simp [putsM,memL,h1]⟩
   ·simp [h1,h2] at hc
 ·intro c' hc
  by_cases h1:c'=c
  ·simp [h1] at hc
  ·by_cases h2:c'=d
   ·rw [if_neg h1,if_pos h2] at hc;cases hc
   ·simp only [kIn,Bool.or_false,Bool.or_eq_false_iff]
    exact ⟨Bool.eq_false_iff.2 fun hb=>h1 (Nat.eq_of_beq_eq_true hb),Bool.eq_false_iff.2 fun hb=>h2 (Nat.eq_of_beq_eq_true hb)⟩
theorem ocall_of22 {P:Program} {f:FuncId} {fn:Func} {body:Code} {args:List AV} {r:AV} {m0 m1 k0 k1:Nat × Option MO} (hf:P.funcs[f]?=some fn) (hb:fn.body=some body)
  (h:∀ w0 F S0 M0,AWs ⟨P,w0,F,S0,max args.length fn.ntmps,none,M0⟩ [body] (RetO P fn r (kIn [(1000,m1),(1001,k1)]) (memL [(1000,m1),(1001,k1)])) ⟨fun t=>args.getD t .un,memL [(1000,m0),(1001,k0)]⟩):OCall P f args (memL [(1000,m0),(1001,k0)]) r (memL [(1000,m1),(1001,k1)]):=by
 refine ocall_of (kIn [(1000,m1),(1001,k1)]) hf hb (fun o ho=>?_) h
 have h1:o≠1000:=fun e=>by subst e;simp [kIn] at ho
 have h2:o≠1001:=fun e=>by subst e;simp [kIn] at ho
 simp [memL,h1,h2]
theorem lop_sl_osl_u {C:Ctx} {o:Oper} {σ:St} {T e:TypeId} {x xl:Operand} {sz by_:Nat} {ke:TK} {sze be:Nat} {ob g len:Nat} {kl:IntKind} {l:Int} (ho:o.op=.slice T x (some xl) none none) (hT:TI C.P T (.slice e) sz by_) (he:TI C.P e ke sze be) (hx:σ.look x=.o (.osl ob g sze 0 len)) (hlo:σ.look xl=.p (.v (.int kl l))) (h0:0≤l) (h1:l≤len) (hd:dOk C o.dst=true) :
  LOp C o σ ⟨.un,[]⟩ (fun _=>false):=
 lop_val hd fun τ a w G hl hm' hr=>by
  obtain ⟨m,c,k1,k2,k3⟩:=look_of hr ((hl x (by simp [ho,Op.operands])).trans hx)
  have e1:=val_of hr ((hl xl (by simp [ho,Op.operands])).trans hlo)
  obtain ⟨d,hdd,hkk⟩:=hT.undd
  have:d=.slice e:=by cases d<;>simp [TK.of] at hkk;rw [hkk]
  subst this
  simp only [Nat.zero_mul,Nat.sub_zero,Nat.zero_add] at k2 k3
  have hb:(Instr.sliceBounds true len c (some (.int kl l)) none none).run C.P w=.ok (l.toNat,len,c) w:=by simp [Instr.sliceBounds,run_sb h0 h1]
  refine ⟨.slice (if c=l.toNat then m.map (fun b=>(⟨b,0,none⟩:Addr)) else (m.map fun b=>(⟨b,0,none⟩:Addr)).map (·.add (l.toNat * sze))) (len - l.toNat) (c - l.toNat),?_,trivial⟩
  simp only [execOp,ho,Instr.sliceAt,Sem.run_bind,run_underlying hdd,Result.andThen_ok,Instr.slice,k3,e1,Option.map_some,Option.map_none,hb,he.run_sizeOf,Sem.run_pure]
end Go.Aw
namespace Go.Proofs.YtcbhmngagibhmaaGreat.Wi
open Go Go.RowKit Go.Aw Go.Aw.Cart Go.Proofs.YtcbhmngagibhmaaGreat.Ca
set_option linter.unusedVariables false
set_option linter.unusedSimpArgs false
set_option maxRecDepth 8000
set_option maxHeartbeats 4000000
namespace WI
theorem lopC {C:Ctx} {o:Oper} {σ:St} {e:Eff} {ro:Nat→Bool} (h:LOp C o σ e ro:=by
  first|(apply lop_cap_asl;(focus rfl);(focus exact inferInstance);(focus rfl);(focus rfl))|exact lop_len_asl rfl rfl rfl|(apply lop_sl_asl_l;(focus rfl);(focus exact inferInstance);(focus exact inferInstance);(focus rfl);(focus rfl);(focus omega);(focus omega);(focus omega);(focus omega);(focus rfl))|(apply lop_sl_asl_h;(focus rfl);(focus exact inferInstance);(focus exact inferInstance);(focus rfl);(focus rfl);(focus omega);(focus omega);(focus rfl))|(apply lop_sl_osl_l;(focus rfl);(focus exact inferInstance);(focus exact inferInstance);(focus rfl);(focus rfl);(focus omega);(focus omega);(focus rfl))|(apply lop_sl_osl_u;(focus rfl);(focus exact inferInstance);(focus exact inferInstance);(focus rfl);(focus rfl);(focus omega);(focus omega);(focus rfl))|exact W9.lopC|fail):LOp C o σ e ro:=h
section steps
variable {C:Ctx} {ops:Array Oper} {o:Oper} {rest:List Oper} {K:St→Prop} {σ:St} {e:Eff} {ro:Nat→Bool} {W:List (Nat × Nat)} {i:Nat}
theorem rnC {d:Nat} (hg:Guard ops σ o true:=by first|exact gd_n rfl rfl|exact gd_t rfl rfl rfl rfl|exact gd_t rfl rfl rfl (by assumption)) (hd:o.dst=some d:=by rfl) (h:LOp C o σ e ro:=by exact lopC) (hk:RunN C ops rest K (e.app (some d) σ)):RunN C ops (o::rest) K σ:=rn_any hg hd h hk
theorem rkC {d:Nat} (hg:Guard ops σ o true:=by first|exact gd_n rfl rfl|exact gd_t rfl rfl rfl rfl|exact gd_t rfl rfl rfl (by assumption)) (hd':o.dst=some d:=by rfl) (hd:dOk C o.dst=true:=by rfl) (h:LOp C o σ e ro:=by exact lopC) (hro:∀ x,ro x=true→okObj ops W i x=true:=by first|exact fun _=>ro_none|exact ro_one rfl|exact ro_k1 rfl|exact ro_one (by kernel_rfl)|exact ro_k1 (by kernel_rfl)|exact ro_kIn (by decide)) (hob:∀ p∈e.obj,(i,p.1)∈W:=by first|exact ob_none|exact ob_one (by decide)|decide) (hk:RunK C ops W (i+1) rest K (e.app (some d) σ)):RunK C ops W i (o::rest) K σ:=rk_wr hg hd' hd h hro hob hk
end steps
end WI
open WI
end Go.Proofs.YtcbhmngagibhmaaGreat.Wi
namespace Go.Proofs.YtcbhmngagibhmaaGreat.Wi
open Go Go.RowKit Go.Aw Go.Aw.Cart Go.Proofs.YtcbhmngagibhmaaGreat.Ca Go.Proofs.YtcbhmngagibhmaaGreat.Rg
set_option linter.unusedVariables false
set_option linter.unusedSimpArgs false
def emptyF (c:Crt):Bool:=sameF c.1 zeroV c.2 []
def offF (e:Kd):Bool:=emptyF e.2||!keyR e.1
end Go.Proofs.YtcbhmngagibhmaaGreat.Wi
