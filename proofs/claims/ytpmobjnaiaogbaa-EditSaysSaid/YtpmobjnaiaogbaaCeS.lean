/- edits: EditSays' contract over what was read -/
import Derived.Test.YtpmobjnaiaogbaaCeR
import Derived.Test.YtpmobjnaiaogbaaCe7
namespace Go.Proofs.Ytpmobjnaiaogbaa.Ca
open Go Go.RowKit Go.Aw Go.Aw.Cart
set_option linter.unusedVariables false
set_option linter.unusedSimpArgs false
theorem editSays_a (x : Crt) (nd : Int) (o : Op3) (other : Int) (h : CIn x) : PCall Try.prog 9 [argAV true (cRow x), argAV false [.i nd], argAV true (opR o), argAV false [.i other]] (.p (.b true)) := by
  rw [c_arg h]; exact editSays_w x.1 x.2 false nd o other h.v8 h.vb
end Go.Proofs.Ytpmobjnaiaogbaa.Ca
