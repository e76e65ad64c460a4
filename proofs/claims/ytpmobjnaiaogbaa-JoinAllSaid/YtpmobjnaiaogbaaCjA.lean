/- joins: JoinAll's contract over what was read -/
import Derived.Test.YtpmobjnaiaogbaaCbR
import Derived.Test.YtpmobjnaiaogbaaCj9
namespace Go.Proofs.Ytpmobjnaiaogbaa.Ca
open Go Go.RowKit Go.Aw Go.Aw.Cart
set_option linter.unusedVariables false
set_option linter.unusedSimpArgs false
theorem rd_carts : Reads Try.prog 33 (List Crt) (fun l => [.sl 9 (l.map fun x => cRow x) false]) (fun l => l.length ≤ maxLen ∧ ∀ x ∈ l, CIn x) :=
  reads_slice inferInstance inferInstance (by decide) rd_cart
theorem c_row {x : Crt} (h : x.1.length = 8) : cRow x = cRw x := by
  obtain ⟨v, l⟩ := x
  match v, h with
  | [a0, a1, a2, a3, a4, a5, a6, a7], _ => rfl
theorem joinAll_a (l : List Crt) (h : l.length ≤ maxLen ∧ ∀ x ∈ l, CIn x) : PCall Try.prog 4 [argAV false [.sl 9 (l.map fun x => cRow x) false]] (.p (.b true)) := by
  have e : (l.map fun x => cRow x) = l.map cRw := List.map_congr_left fun x hx => c_row (h.2 x hx).v8
  rw [e]
  exact Cu.joinAll_w l false (fun x hx => ⟨(h.2 x hx).v8, fun n hn => ((h.2 x hx).vb n hn).1⟩) h.1
end Go.Proofs.Ytpmobjnaiaogbaa.Ca
