/- the reference, chapter 06: which carts may be -/
import Derived.Test.YtpgppgehhclfoaaGreatOBB52
namespace Go.Proofs.YtpgppgehhclfoaaGreat.Cr
open Go Go.RowKit Go.Aw Go.Aw.Cart Go.Aw.Ord Go.Proofs.YtpgppgehhclfoaaGreat.Ca
set_option linter.unusedVariables false
set_option linter.unusedSimpArgs false
set_option maxRecDepth 8000
set_option maxHeartbeats 4000000
/-! which may be -/
attribute [local irreducible] hasF entF rowOk
end Go.Proofs.YtpgppgehhclfoaaGreat.Cr
