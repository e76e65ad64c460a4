/- sessions: SessionTicks over what was read -/
import Derived.Test.YtkgploeegbmofaaGreatSEB00
import Derived.Test.YtkgploeegbmofaaGreatSEA42
import Derived.Test.YtkgploeegbmofaaGreatSEA36
namespace Go.Proofs.YtkgploeegbmofaaGreat.Wi
open Go Go.RowKit Go.Aw Go.Aw.Cart Go.Aw.Tree Go.Proofs.YtkgploeegbmofaaGreat.Ca Go.Proofs.YtkgploeegbmofaaGreat.Rg
set_option linter.unusedVariables false
set_option maxRecDepth 8000
theorem rd_u8s:Reads Tryz.prog 5 Int (fun n=>[PVal.k .u8 n]) (fun n=>0≤n∧n < 256):=(reads_int inferInstance).imp' id (fun _ _=>rfl) (fun _ h=>by have:=u8_of h;dsimp only [id];omega)
theorem sessionTicks_a (s:Ses) (n:Int) (h:SGo s) (k:0≤n∧n < 256):PCall Tryz.prog 4 [argAV true (sRow s),argAV false [.k .u8 n]] (.p (.b true)):=by
 obtain ⟨m,rfl⟩:∃ m:Nat,n=m:=⟨n.toNat,by omega⟩
 exact sessionTicks_g s m (by omega) h alive27_w
end Go.Proofs.YtkgploeegbmofaaGreat.Wi
