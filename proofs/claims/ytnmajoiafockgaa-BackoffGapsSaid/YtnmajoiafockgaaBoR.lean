/- backoffs: how the arguments of the laws read. -/
import Derived.Test.YtnmajoiafockgaaBo1
namespace Go.Proofs.Ytnmajoiafockgaa.Bo
open Go Go.RowKit Go.Aw Go.Aw.Bo
set_option linter.unusedVariables false
set_option linter.unusedSimpArgs false
theorem rd_int : Reads Try.prog 3 Int (fun n => [PVal.k .i64 n]) (fun n => IntKind.i64.min ≤ n ∧ n ≤ IntKind.i64.max) := reads_int inferInstance
def stRow (x : Int × Int × Int × Int) : List PVal := [PVal.i x.1, PVal.i x.2.1, PVal.i x.2.2.1, PVal.i x.2.2.2]
theorem rd_st : Reads Try.prog 23 (Int × Int × Int × Int) stRow (fun _ => True) :=
  (reads_struct (inferInstance : TI Try.prog 23 _ _ _)
    (readsFs_cons (inferInstance : TI Try.prog 3 _ _ _) rd_int (readsFs_cons (inferInstance : TI Try.prog 3 _ _ _) rd_int (readsFs_cons (inferInstance : TI Try.prog 3 _ _ _) rd_int (readsFs_cons (inferInstance : TI Try.prog 3 _ _ _) rd_int (readsFs_nil rfl)))))).imp
    (fun x => (x.1, x.2.1, x.2.2.1, x.2.2.2.1)) (fun x => rfl) (fun _ _ => trivial)
end Go.Proofs.Ytnmajoiafockgaa.Bo
