/- clashes: the laws' contracts over what was read. -/
import Derived.Test.YtpamepepibnlfaaClR
import Derived.Test.YtpamepepibnlfaaClO
import Derived.Test.YtpamepepibnlfaaClV
namespace Go.Proofs.Ytpamepepibnlfaa.Cl
open Go Go.RowKit Go.Aw Go.Aw.Tree Go.Proofs.Ytpamepepibnlfaa.Sh Go.Proofs.Ytpamepepibnlfaa.Tr
set_option linter.unusedVariables false
set_option linter.unusedSimpArgs false
theorem or_a (ls ms : List (List Nat)) (h : ls.length = 16 ∧ ∀ b ∈ ls, bOk b) (h' : ms.length = 16 ∧ ∀ b ∈ ms, bOk b) : PCall Try.prog 4 [argAV true (tRow ls), argAV true (tRow ms)] (.p (.b true)) := by
  rw [txs_arg, txs_arg]; exact or_w ls ms h.1 h'.1 (okT_of h.2) (okT_of h'.2)
theorem equal_a (ls : List (List Nat)) (h : ls.length = 16 ∧ ∀ b ∈ ls, bOk b) : PCall Try.prog 5 [argAV true (tRow ls)] (.p (.b true)) := by
  rw [txs_arg]; exact equal_w ls h.1 (okT_of h.2)
theorem one_a (ls : List (List Nat)) (leaf : Int) (b : List Nat) (h : ls.length = 16 ∧ ∀ b ∈ ls, bOk b) (hb : bOk b) : PCall Try.prog 6 [argAV true (tRow ls), .p (.i leaf), .p (.sl 1 (b.map fun n : Nat => [PVal.k .u8 n]) false)] (.p (.b true)) := by
  rw [txs_arg]; exact one_w ls leaf b h.1 (okT_of h.2) hb.2 (len_of hb.1)
end Go.Proofs.Ytpamepepibnlfaa.Cl
