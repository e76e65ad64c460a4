/- edits: EditDots' contract over what was read -/
import Derived.Test.YtpmobjnaiaogbaaCeR
import Derived.Test.YtpmobjnaiaogbaaCe8
namespace Go.Proofs.Ytpmobjnaiaogbaa.Ca
open Go Go.RowKit Go.Aw Go.Aw.Cart
set_option linter.unusedVariables false
set_option linter.unusedSimpArgs false
theorem editDots_a (x : Crt) (nd : Int) (l : List Op3) (h : CIn x) : PCall Try.prog 8 [argAV true (cRow x), argAV false [.i nd], argAV false [.sl 3 (l.map fun o => opR o) false]] (.p (.b true)) := by
  rw [c_arg h]; exact editDots_w x.1 x.2 false nd l false h.v8 h.vb
end Go.Proofs.Ytpmobjnaiaogbaa.Ca
