/- edits, the laws: ops as arguments -/
import Derived.Test.YtpmobjnaiaogbaaCbR
import Derived.Test.YtpmobjnaiaogbaaCe1
namespace Go.Proofs.Ytpmobjnaiaogbaa.Ca
open Go Go.RowKit Go.Aw Go.Aw.Cart
set_option linter.unusedVariables false
set_option linter.unusedSimpArgs false
theorem rd_op : Reads Try.prog 66 Op3 (fun o => opR o) (fun _ => True) :=
  (reads_struct (inferInstance : TI Try.prog 66 _ _ _)
    (readsFs_cons (inferInstance : TI Try.prog 3 _ _ _) rd_int (readsFs_cons (inferInstance : TI Try.prog 3 _ _ _) rd_int (readsFs_cons (inferInstance : TI Try.prog 3 _ _ _) rd_int (readsFs_nil rfl))))).imp
    (fun x => (x.1, x.2.1, x.2.2.1)) (fun x => rfl) (fun x h => trivial)
theorem rd_ops : Reads Try.prog 60 (List Op3) (fun l => [.sl 3 (l.map fun o => opR o) false]) (fun l => l.length ≤ maxLen ∧ ∀ e ∈ l, True) :=
  reads_slice inferInstance inferInstance (by decide) rd_op
end Go.Proofs.Ytpmobjnaiaogbaa.Ca
