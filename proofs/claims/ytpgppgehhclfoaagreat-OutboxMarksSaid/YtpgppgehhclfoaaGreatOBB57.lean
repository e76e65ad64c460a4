/- the reference's reader: a list -/
import Derived.Test.YtpgppgehhclfoaaGreatOBB54
import Derived.Test.YtpgppgehhclfoaaGreatOBB55
import Derived.Test.YtpgppgehhclfoaaGreatOBB56
namespace Go.Proofs.YtpgppgehhclfoaaGreat.Wi
open Go Go.RowKit Go.Aw Go.Aw.Cart Go.Proofs.YtpgppgehhclfoaaGreat.Ca
set_option linter.unusedVariables false
set_option linter.unusedSimpArgs false
set_option maxRecDepth 8000
set_option maxHeartbeats 4000000
open WA
attribute [local irreducible] vecS smallS entS cartS textS kdS
end Go.Proofs.YtpgppgehhclfoaaGreat.Wi
