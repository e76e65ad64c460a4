/- the reference's reader: a cart -/
import Derived.Test.YtpgppgehhclfoaaGreatOBB51
import Derived.Test.YtpgppgehhclfoaaGreatOBB53
namespace Go.Proofs.YtpgppgehhclfoaaGreat.Wi
open Go Go.RowKit Go.Aw Go.Aw.Cart Go.Proofs.YtpgppgehhclfoaaGreat.Ca
set_option linter.unusedVariables false
set_option linter.unusedSimpArgs false
set_option maxRecDepth 8000
set_option maxHeartbeats 4000000
open W8
attribute [local irreducible] vecS smallS entS cartS
end Go.Proofs.YtpgppgehhclfoaaGreat.Wi
