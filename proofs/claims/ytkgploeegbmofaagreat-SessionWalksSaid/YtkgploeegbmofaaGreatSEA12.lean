/- wire: a reader's whole numbers, texts and vectors; its end -/
import Derived.Test.YtkgploeegbmofaaGreatSEA10
namespace Go.Proofs.YtkgploeegbmofaaGreat.Wi
open Go Go.RowKit Go.Aw Go.Aw.Cart Go.Proofs.YtkgploeegbmofaaGreat.Ca
set_option linter.unusedVariables false
set_option linter.unusedSimpArgs false
set_option maxRecDepth 8000
set_option maxHeartbeats 4000000
namespace W6
theorem lopC {C:Ctx} {o:Oper} {σ:St} {e:Eff} {ro:Nat→Bool} (h:LOp C o σ e ro:=by
  first|(apply lop_conv_a;(focus rfl);(focus exact inferInstance);(focus exact inferInstance);(focus rfl);(focus assumption);(focus rfl))|exact W5.lopC|fail):LOp C o σ e ro:=h
end W6
open W6
end Go.Proofs.YtkgploeegbmofaaGreat.Wi
