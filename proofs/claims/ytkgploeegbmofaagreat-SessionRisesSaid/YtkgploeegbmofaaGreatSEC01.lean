/- sessions: SessionRises over what was read -/
import Derived.Test.YtkgploeegbmofaaGreatSEC00
import Derived.Test.YtkgploeegbmofaaGreatSEA42
import Derived.Test.YtkgploeegbmofaaGreatSEA36
namespace Go.Proofs.YtkgploeegbmofaaGreat.Wi
open Go Go.RowKit Go.Aw Go.Aw.Cart Go.Aw.Tree Go.Proofs.YtkgploeegbmofaaGreat.Ca Go.Proofs.YtkgploeegbmofaaGreat.Rg
set_option linter.unusedVariables false
set_option maxRecDepth 8000
theorem sessionRises_a (s:Ses) (l:List Kd) (m:Msg) (now:Int) (h:SGo s) (k:l.length≤maxLen∧∀ k∈l,KdI k) (hm:MGo m):PCall Tryz.prog 5 [argAV true (sRow s),argAV false [.sl 10 (l.map fun k=>kR k) false],argAV true (mRow m),argAV false [PVal.k .i64 now]] (.p (.b true)):=by
 rw [m_arg]
 exact sessionRises_g s l false m now h k.1 k.2 hm alive27_w
end Go.Proofs.YtkgploeegbmofaaGreat.Wi
