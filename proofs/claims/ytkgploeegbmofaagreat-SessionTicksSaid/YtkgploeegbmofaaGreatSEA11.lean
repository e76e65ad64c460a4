/- wire: a reader -/
import Derived.Test.YtkgploeegbmofaaGreatSEA02
namespace Go.Proofs.YtkgploeegbmofaaGreat.Wi
open Go Go.RowKit Go.Aw
set_option linter.unusedVariables false
set_option linter.unusedSimpArgs false
set_option maxRecDepth 8000
set_option maxHeartbeats 4000000
open W2
end Go.Proofs.YtkgploeegbmofaaGreat.Wi
