/- the reference, chapter 06: carts as the reference's; which are the same, which may be -/
import Derived.Test.YtpgppgehhclfoaaGreatOBB86
import Derived.Test.YtpgppgehhclfoaaGreatOBA09
namespace Go.Proofs.YtpgppgehhclfoaaGreat.Cr
open Go Go.RowKit Go.Aw Go.Aw.Cart Go.Aw.Ord Go.Proofs.YtpgppgehhclfoaaGreat.Ca
set_option linter.unusedVariables false
set_option linter.unusedSimpArgs false
set_option maxRecDepth 8000
set_option maxHeartbeats 4000000
end Go.Proofs.YtpgppgehhclfoaaGreat.Cr
