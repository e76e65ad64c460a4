/- joins: JoinMany's contract over what was read -/
import Derived.Test.YtpmobjnaiaogbaaCbR
import Derived.Test.YtpmobjnaiaogbaaCj8
namespace Go.Proofs.Ytpmobjnaiaogbaa.Ca
open Go Go.RowKit Go.Aw Go.Aw.Cart
set_option linter.unusedVariables false
set_option linter.unusedSimpArgs false
theorem rd_u16' : Reads Try.prog 46 Int (fun n => [PVal.k .u16 n]) (fun n => 0 ≤ n ∧ n < 65536) := (reads_int inferInstance).imp' id (fun _ _ => rfl) (fun _ h => u16_of h)
theorem joinMany_a (n m : Int) (h : 0 ≤ n ∧ n < 65536) (k : 0 ≤ m ∧ m < 65536) : PCall Try.prog 5 [.p (.k .u16 n), .p (.k .u16 m)] (.p (.b true)) := by
  obtain ⟨i, rfl⟩ : ∃ k : Nat, n = k := ⟨n.toNat, by omega⟩
  obtain ⟨j, rfl⟩ : ∃ k : Nat, m = k := ⟨m.toNat, by omega⟩
  exact joinMany_w i j (by omega) (by omega)
end Go.Proofs.Ytpmobjnaiaogbaa.Ca
