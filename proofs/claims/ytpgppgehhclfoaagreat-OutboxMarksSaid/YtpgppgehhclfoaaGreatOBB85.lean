/- the reference's writers: carts and lists -/
import Derived.Test.YtpgppgehhclfoaaGreatOBB80
import Derived.Test.YtpgppgehhclfoaaGreatOBB87
namespace Go.Proofs.YtpgppgehhclfoaaGreat.Wi
open Go Go.RowKit Go.Aw Go.Aw.Cart Go.Proofs.YtpgppgehhclfoaaGreat.Ca
set_option linter.unusedVariables false
set_option linter.unusedSimpArgs false
set_option maxRecDepth 8000
set_option maxHeartbeats 4000000
structure KdW (k:Kd):Prop where
 key:okB k.1
 len:k.1.length≤20
 vec:vecOk k.2.1
 few:k.2.2.length≤400
 ent:∀ e∈k.2.2,entOk e
namespace PW7
theorem lopC {C:Ctx} {o:Oper} {σ:St} {e:Eff} {ro:Nat→Bool} (h:LOp C o σ e ro:=by
  first|(apply lop_ix_sb;(focus rfl);(focus exact inferInstance);(focus rfl);(focus assumption);(focus rfl);(focus omega);(focus omega);(focus rfl))|exact W9.lopC|fail):LOp C o σ e ro:=h
section steps
variable {C:Ctx} {ops:Array Oper} {o:Oper} {rest:List Oper} {K:St→Prop} {σ:St} {e:Eff} {ro:Nat→Bool} {W:List (Nat × Nat)} {i:Nat}
theorem rnC {d:Nat} (hg:Guard ops σ o true:=by first|exact gd_n rfl rfl|exact gd_t rfl rfl rfl rfl|exact gd_t rfl rfl rfl (by assumption)) (hd:o.dst=some d:=by rfl) (h:LOp C o σ e ro:=by exact lopC) (hk:RunN C ops rest K (e.app (some d) σ)):RunN C ops (o::rest) K σ:=rn_any hg hd h hk
theorem rkC {d:Nat} (hg:Guard ops σ o true:=by first|exact gd_n rfl rfl|exact gd_t rfl rfl rfl rfl|exact gd_t rfl rfl rfl (by assumption)) (hd':o.dst=some d:=by rfl) (hd:dOk C o.dst=true:=by rfl) (h:LOp C o σ e ro:=by exact lopC) (hro:∀ x,ro x=true→okObj ops W i x=true:=by first|exact fun _=>ro_none|exact ro_one rfl|exact ro_k1 rfl|exact ro_one (by kernel_rfl)|exact ro_k1 (by kernel_rfl)|exact ro_kIn (by decide)) (hob:∀ p∈e.obj,(i,p.1)∈W:=by first|exact ob_none|exact ob_one (by decide)|decide) (hk:RunK C ops W (i+1) rest K (e.app (some d) σ)):RunK C ops W i (o::rest) K σ:=rk_wr hg hd' hd h hro hob hk
end steps
end PW7
end Go.Proofs.YtpgppgehhclfoaaGreat.Wi
