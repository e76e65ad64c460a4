/- the reference's reader: its end, small numbers, whole numbers, texts, vectors -/
import Derived.Test.YtpgppgehhclfoaaGreatOBB50
import Derived.Test.YtpgppgehhclfoaaGreatOBB87
namespace Go.Proofs.YtpgppgehhclfoaaGreat.Wi
open Go Go.RowKit Go.Aw Go.Aw.Cart Go.Proofs.YtpgppgehhclfoaaGreat.Ca
set_option linter.unusedVariables false
set_option linter.unusedSimpArgs false
set_option maxRecDepth 8000
set_option maxHeartbeats 4000000
namespace P2
theorem rnC {C:Ctx} {ops:Array Oper} {o:Oper} {rest:List Oper} {K:St→Prop} {σ:St} {e:Eff} {ro:Nat→Bool} {d:Nat} (hg:Guard ops σ o true:=by first|exact gd_n rfl rfl|exact gd_t rfl rfl rfl (by assumption)|exact gd_t rfl rfl rfl rfl) (hd:o.dst=some d:=by rfl) (h:LOp C o σ e ro:=by exact W6.lopC) (hk:RunN C ops rest K (e.app (some d) σ)):RunN C ops (o::rest) K σ:=rn_any hg hd h hk
end P2
section
open P2
end
open W6
end Go.Proofs.YtpgppgehhclfoaaGreat.Wi
