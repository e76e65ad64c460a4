/- messages, the reference: which may be (printed by genr.py) -/
import Derived.Test.YtkgploeegbmofaaGreatOVA40
import Derived.Test.YtkgploeegbmofaaGreatOVA21
namespace Go.Proofs.YtkgploeegbmofaaGreat.Wi
open Go Go.RowKit Go.Aw Go.Aw.Cart Go.Aw.Tree Go.Proofs.YtkgploeegbmofaaGreat.Ca Go.Proofs.YtkgploeegbmofaaGreat.Rg
set_option linter.unusedVariables false
set_option linter.unusedSimpArgs false
set_option maxRecDepth 8000
set_option maxHeartbeats 4000000
theorem lop_bD0 {C:Ctx} {o:Oper} {σ:St} {T e:TypeId} {n sz by_:Nat} {ke:TK} {sze be:Nat} {z:List Value} (ho:o.op=.build T #[]) (hT:TI C.P T (.array n e) sz by_) (he:TI C.P e ke sze be) (hz:TZ C.P T z) (h1:z.all (·.oneCell')=true)
  (hb:bfill (fun i=>some (i * sze,sze)) (z.map fun v=>.p (.v v)) []=some (zeroD.map bcD)) (hd:dOk C o.dst=true):LOp C o σ ⟨.a (zeroD.map bcD),[]⟩ (fun _=>false):=lop_build_ar ho hT he hz .nil h1 hb hd
namespace R4
theorem lopC {C:Ctx} {o:Oper} {σ:St} {e:Eff} {ro:Nat→Bool} (h:LOp C o σ e ro:=by
  first|(apply lop_bD0;(focus rfl);(focus exact inferInstance);(focus exact inferInstance);(focus exact inferInstance);(focus decide);(focus rfl);(focus rfl))|exact T4.lopC|fail):LOp C o σ e ro:=h
section steps
variable {C:Ctx} {ops:Array Oper} {o:Oper} {rest:List Oper} {K:St→Prop} {σ:St} {e:Eff} {ro:Nat→Bool} {W:List (Nat × Nat)} {i:Nat}
theorem rnC {d:Nat} (hg:Guard ops σ o true:=by first|exact gd_n rfl rfl|exact gd_t rfl rfl rfl rfl|exact gd_t rfl rfl rfl (by assumption)) (hd:o.dst=some d:=by rfl) (h:LOp C o σ e ro:=by exact lopC) (hk:RunN C ops rest K (e.app (some d) σ)):RunN C ops (o::rest) K σ:=rn_any hg hd h hk
theorem rkC {d:Nat} (hg:Guard ops σ o true:=by first|exact gd_n rfl rfl|exact gd_t rfl rfl rfl rfl|exact gd_t rfl rfl rfl (by assumption)) (hd':o.dst=some d:=by rfl) (hd:dOk C o.dst=true:=by rfl) (h:LOp C o σ e ro:=by exact lopC) (hro:∀ x,ro x=true→okObj ops W i x=true:=by first|exact fun _=>ro_none|exact ro_one rfl|exact ro_k1 rfl|exact ro_one (by kernel_rfl)|exact ro_k1 (by kernel_rfl)|exact ro_kIn (by decide)) (hob:∀ p∈e.obj,(i,p.1)∈W:=by first|exact ob_none|exact ob_one (by decide)|decide) (hk:RunK C ops W (i+1) rest K (e.app (some d) σ)):RunK C ops W i (o::rest) K σ:=rk_wr hg hd' hd h hro hob hk
end steps
end R4
structure KOf (p:Prop):Prop where v:p
end Go.Proofs.YtkgploeegbmofaaGreat.Wi
