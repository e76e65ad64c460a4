/- carts: the laws' contracts over what was read -/
import Derived.Test.YtacofbbclmbbeaaCbR
import Derived.Test.YtacofbbclmbbeaaCb1
import Derived.Test.YtacofbbclmbbeaaCb3
import Derived.Test.YtacofbbclmbbeaaCb4
namespace Go.Proofs.Ytacofbbclmbbeaa.Ca
open Go Go.RowKit Go.Aw Go.Aw.Cart
set_option linter.unusedVariables false
set_option linter.unusedSimpArgs false
theorem rd_u16 : Reads Try.prog 22 Int (fun n => [PVal.k .u16 n]) (fun n => 0 ≤ n ∧ n < 65536) := (reads_int inferInstance).imp' id (fun _ _ => rfl) (fun _ h => u16_of h)
theorem cartMany_a (n : Int) (h : 0 ≤ n ∧ n < 65536) : PCall Try.prog 3 [.p (.k .u16 n)] (.p (.b true)) := by
  obtain ⟨k, rfl⟩ : ∃ k : Nat, n = k := ⟨n.toNat, by omega⟩
  exact cartMany_w k (by omega)
theorem cartDots_a (x : Crt) (d : Dot) (h : CIn x) : PCall Try.prog 10 [argAV true (cRow x), argAV true (dR d)] (.p (.b true)) := by
  rw [c_arg h]; exact cartDots_w x.1 x.2 false d h.v8
theorem cartValue_a (x : Crt) (k : Int) (h : CIn x) : PCall Try.prog 4 [argAV true (cRow x), .p (.i k)] (.p (.b true)) := by
  rw [c_arg h]; exact cartValue_w x.1 x.2 false k h.v8 h.qb
end Go.Proofs.Ytacofbbclmbbeaa.Ca
