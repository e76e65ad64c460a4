/- messages: digests written and read, what is left -/
import Derived.Test.YtkgploeegbmofaaGreatSEA15
import Derived.Test.YtkgploeegbmofaaGreatSEA09
import Derived.Test.YtkgploeegbmofaaGreatSEA16
namespace Go.Aw
open Go Go.RowKit
end Go.Aw
namespace Go.Proofs.YtkgploeegbmofaaGreat.Wi
open Go Go.RowKit Go.Aw Go.Aw.Cart Go.Proofs.YtkgploeegbmofaaGreat.Ca
set_option linter.unusedVariables false
set_option linter.unusedSimpArgs false
set_option maxRecDepth 8000
set_option maxHeartbeats 4000000
abbrev bcD (n:Nat):AC:=.p (.k .u8 (n:Int))
def zeroD:List Nat:=List.replicate 32 0
namespace T1
end T1
open T1
end Go.Proofs.YtkgploeegbmofaaGreat.Wi
