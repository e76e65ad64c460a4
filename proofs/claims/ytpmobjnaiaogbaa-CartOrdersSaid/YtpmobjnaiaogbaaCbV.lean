/- carts: CartOrders's contract over what was read -/
import Derived.Test.YtpmobjnaiaogbaaCbR
import Derived.Test.YtpmobjnaiaogbaaCb2
namespace Go.Proofs.Ytpmobjnaiaogbaa.Ca
open Go Go.RowKit Go.Aw Go.Aw.Cart
set_option linter.unusedVariables false
set_option linter.unusedSimpArgs false
theorem cartOrders_a (x : Crt) (k : Int) (h : CIn x) : PCall Try.prog 3 [argAV true (cRow x), .p (.i k)] (.p (.b true)) := by
  rw [c_arg h]; exact cartOrders_w x.1 x.2 false k h.v8
end Go.Proofs.Ytpmobjnaiaogbaa.Ca
