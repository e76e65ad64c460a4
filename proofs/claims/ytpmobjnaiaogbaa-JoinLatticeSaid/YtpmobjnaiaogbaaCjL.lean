/- joins: JoinLattice's contract over what was read -/
import Derived.Test.YtpmobjnaiaogbaaCbR
import Derived.Test.YtpmobjnaiaogbaaCj7
namespace Go.Proofs.Ytpmobjnaiaogbaa.Ca
open Go Go.RowKit Go.Aw Go.Aw.Cart
set_option linter.unusedVariables false
set_option linter.unusedSimpArgs false
theorem joinLattice_a (x y z : Crt) (h : CIn x) (k : CIn y) (j : CIn z) : PCall Try.prog 6 [argAV true (cRow x), argAV true (cRow y), argAV true (cRow z)] (.p (.b true)) := by
  rw [c_arg h, c_arg k, c_arg j]; exact joinLattice_w x.1 y.1 z.1 x.2 y.2 z.2 h.v8 k.v8 j.v8 (fun n hn => (h.vb n hn).1) (fun n hn => (k.vb n hn).1) (fun n hn => (j.vb n hn).1)
end Go.Proofs.Ytpmobjnaiaogbaa.Ca
