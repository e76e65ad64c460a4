/- edits: JoinEdits' contract over what was read -/
import Derived.Test.YtpmobjnaiaogbaaCeR
import Derived.Test.YtpmobjnaiaogbaaCe9
namespace Go.Proofs.Ytpmobjnaiaogbaa.Ca
open Go Go.RowKit Go.Aw Go.Aw.Cart
set_option linter.unusedVariables false
set_option linter.unusedSimpArgs false
theorem joinEdits_a (x y : Crt) (nd : Int) (o : Op3) (h : CIn x) (k : CIn y) : PCall Try.prog 12 [argAV true (cRow x), argAV true (cRow y), argAV false [.i nd], argAV true (opR o)] (.p (.b true)) := by
  rw [c_arg h, c_arg k]; exact joinEdits_w x.1 y.1 x.2 y.2 false false nd o h.v8 k.v8 h.vb
end Go.Proofs.Ytpmobjnaiaogbaa.Ca
