/- carts: CartTells' contract over what was read -/
import Derived.Test.YtpmobjnaiaogbaaGreatCbR
import Derived.Test.YtpmobjnaiaogbaaGreatCrT
namespace Go.Proofs.YtpmobjnaiaogbaaGreat.Ca
open Go Go.RowKit Go.Aw Go.Aw.Cart
set_option linter.unusedVariables false
set_option linter.unusedSimpArgs false
theorem cartTells_a (x y : Crt) (item : Int) (d : Dot) (h : CIn x) (k : CIn y) : PCall Tryz.prog 3 [argAV true (cRow x), argAV true (cRow y), argAV false [.i item], argAV true (dR d)] (.p (.b true)) := by
  rw [c_arg h, c_arg k]; exact Cw.cartTells_w x.1 y.1 x.2 y.2 false false item d h.v8 k.v8 h.qb k.qb
end Go.Proofs.YtpmobjnaiaogbaaGreat.Ca
