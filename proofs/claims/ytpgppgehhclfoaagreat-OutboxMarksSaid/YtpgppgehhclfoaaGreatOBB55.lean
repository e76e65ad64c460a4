/- the reference's lists: which may be -/
import Derived.Test.YtpgppgehhclfoaaGreatOBB85
import Derived.Test.YtpgppgehhclfoaaGreatOBB49
import Derived.Test.YtpgppgehhclfoaaGreatOBB53
namespace Go.Proofs.YtpgppgehhclfoaaGreat.Wi
open Go Go.RowKit Go.Aw Go.Aw.Cart Go.Proofs.YtpgppgehhclfoaaGreat.Ca
set_option linter.unusedVariables false
set_option linter.unusedSimpArgs false
set_option maxRecDepth 8000
set_option maxHeartbeats 4000000
open W9
end Go.Proofs.YtpgppgehhclfoaaGreat.Wi
