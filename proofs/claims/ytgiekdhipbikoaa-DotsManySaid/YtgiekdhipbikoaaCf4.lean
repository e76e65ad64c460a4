/- dots: DotsMany's contract over what was read -/
import Derived.Test.YtgiekdhipbikoaaCbR
import Derived.Test.YtgiekdhipbikoaaCf3
namespace Go.Proofs.Ytgiekdhipbikoaa.Ca
open Go Go.RowKit Go.Aw Go.Aw.Cart
set_option linter.unusedVariables false
set_option linter.unusedSimpArgs false
theorem rd_u16d : Reads Try.prog 49 Int (fun n => [PVal.k .u16 n]) (fun n => 0 ≤ n ∧ n < 65536) := (reads_int inferInstance).imp' id (fun _ _ => rfl) (fun _ h => u16_of h)
theorem dotsMany_a (n node : Int) (h : 0 ≤ n ∧ n < 65536) : PCall Try.prog 4 [argAV false [.k .u16 n], argAV false [.i node]] (.p (.b true)) := by
  obtain ⟨m, rfl⟩ : ∃ m : Nat, n = m := ⟨n.toNat, by omega⟩
  exact dotsMany_w m node (by omega)
end Go.Proofs.Ytgiekdhipbikoaa.Ca
