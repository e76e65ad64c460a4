/- carts: of dots that stand in order the first of each run -/
import Derived.Test.YthhlcdacmlnjdaaGreatCaM
import Derived.Test.YthhlcdacmlnjdaaGreatCa1
import Derived.Test.YthhlcdacmlnjdaaGreatKj
namespace Go.Proofs.YthhlcdacmlnjdaaGreat.Ca
open Go Go.RowKit Go.Aw Go.Aw.Cart
set_option linter.unusedVariables false
set_option linter.unusedSimpArgs false
set_option maxRecDepth 8000
set_option maxHeartbeats 4000000
theorem vEqD (a b : Dot) : vEqB [.int .i64 a.1, .int .u64 a.2] [.int .i64 b.1, .int .u64 b.2] = decide (a = b) := by
  obtain ⟨a1, a2⟩ := a
  obtain ⟨b1, b2⟩ := b
  rw [Bool.eq_iff_iff]
  simp [vEqB, vEq]
end Go.Proofs.YthhlcdacmlnjdaaGreat.Ca
