/- the reference's reader: faults, bytes, numbers -/
import Derived.Test.YtkgploeegbmofaaGreatOVA08
import Derived.Test.YtkgploeegbmofaaGreatOVA06
import Derived.Test.YtkgploeegbmofaaGreatOVA10
import Derived.Test.YtkgploeegbmofaaGreatOVA09
namespace Go.Proofs.YtkgploeegbmofaaGreat.Wi
open Go Go.RowKit Go.Aw
set_option linter.unusedVariables false
set_option linter.unusedSimpArgs false
set_option maxRecDepth 8000
set_option maxHeartbeats 4000000
namespace P1
end P1
open P1
structure RfOk (b:List Nat) (r:RS):Prop where
 byte:∀ c∈r.1,c < 256
 suf:r.1 <:+ b
 len:b.length≤1000000000
theorem RfOk.rd {b:List Nat} {r:RS} (h:RfOk b r):r.1.length≤1000000000:=Nat.le_trans h.suf.length_le h.len
end Go.Proofs.YtkgploeegbmofaaGreat.Wi
namespace Go.Proofs.YtkgploeegbmofaaGreat.Wi
open Go Go.RowKit Go.Aw Go.Aw.Cart Go.Proofs.YtkgploeegbmofaaGreat.Ca
set_option linter.unusedVariables false
set_option linter.unusedSimpArgs false
set_option maxRecDepth 8000
set_option maxHeartbeats 4000000
namespace P2
end P2
section
open P2
end
open W6
end Go.Proofs.YtkgploeegbmofaaGreat.Wi
