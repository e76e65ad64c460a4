/- joins: JoinOff's contract over what was read -/
import Derived.Test.YtpmobjnaiaogbaaCbR
import Derived.Test.YtpmobjnaiaogbaaCj6
namespace Go.Proofs.Ytpmobjnaiaogbaa.Ca
open Go Go.RowKit Go.Aw Go.Aw.Cart
set_option linter.unusedVariables false
set_option linter.unusedSimpArgs false
theorem joinOff_a (x y : Crt) (d : Dot) (h : CIn x) (k : CIn y) : PCall Try.prog 7 [argAV true (cRow x), argAV true (cRow y), argAV true (dR d)] (.p (.b true)) := by
  rw [c_arg h, c_arg k]; exact joinOff_w x.1 y.1 x.2 y.2 false false d h.v8 k.v8 fun n hn => (h.vb n hn).1
end Go.Proofs.Ytpmobjnaiaogbaa.Ca
