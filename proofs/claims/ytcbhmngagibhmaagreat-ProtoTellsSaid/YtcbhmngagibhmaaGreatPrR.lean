/- messages: ProtoTells over what was read -/
import Derived.Test.YtcbhmngagibhmaaGreatSp
import Derived.Test.YtcbhmngagibhmaaGreatPRA25
import Derived.Test.YtcbhmngagibhmaaGreatPrB
namespace Go.Proofs.YtcbhmngagibhmaaGreat.Wi
open Go Go.RowKit Go.Aw Go.Aw.Cart Go.Aw.Tree Go.Proofs.YtcbhmngagibhmaaGreat.Ca Go.Proofs.YtcbhmngagibhmaaGreat.Rg
set_option linter.unusedVariables false
set_option maxRecDepth 8000
theorem protoTells_a (m n:Msg) (b:List Nat) (hm:MGo m) (hn:MGo n) (hb:okB b∧b.length≤9223372036854775807):PCall Tryz.prog 3 [argAV true (mRow m),argAV true (mRow n),argAV false [.sl 1 (b.map bR) false]] (.p (.b true)):=by
 rw [m_arg,m_arg]
 exact protoTells_w m n b hm hn hb.1 hb.2
end Go.Proofs.YtcbhmngagibhmaaGreat.Wi
