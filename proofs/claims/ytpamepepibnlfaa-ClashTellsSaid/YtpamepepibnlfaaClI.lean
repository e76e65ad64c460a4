/- clashes: ClashTells's contract over what was read. -/
import Derived.Test.YtpamepepibnlfaaClR
import Derived.Test.YtpamepepibnlfaaClJ
namespace Go.Proofs.Ytpamepepibnlfaa.Cl
open Go Go.RowKit Go.Aw Go.Aw.Tree Go.Proofs.Ytpamepepibnlfaa.Sh Go.Proofs.Ytpamepepibnlfaa.Tr
set_option linter.unusedVariables false
set_option linter.unusedSimpArgs false
theorem tells_a (ls ms : List (List Nat)) (place : Int) (h : ls.length = 16 ∧ ∀ b ∈ ls, bOk b) (h' : ms.length = 16 ∧ ∀ b ∈ ms, bOk b) : PCall Try.prog 3 [argAV true (tRow ls), argAV true (tRow ms), .p (.i place)] (.p (.b true)) := by
  rw [txs_arg, txs_arg]; exact Go.Proofs.Ytpamepepibnlfaa.Clj.tells_w ls ms place h.1 h'.1 (okT_of h.2) (okT_of h'.2)
end Go.Proofs.Ytpamepepibnlfaa.Cl
