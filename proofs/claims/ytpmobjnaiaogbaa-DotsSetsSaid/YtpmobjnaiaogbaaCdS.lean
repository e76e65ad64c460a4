/- dots: the laws' contracts over what was read -/
import Derived.Test.YtpmobjnaiaogbaaCbR
import Derived.Test.YtpmobjnaiaogbaaCd8
namespace Go.Proofs.Ytpmobjnaiaogbaa.Ca
open Go Go.RowKit Go.Aw Go.Aw.Cart
set_option linter.unusedVariables false
set_option linter.unusedSimpArgs false
theorem rd_dots : Reads Try.prog 57 (List Dot) (fun l => [.sl 2 (l.map fun d => dR d) false]) (fun l => l.length ≤ maxLen ∧ ∀ d ∈ l, DB d) :=
  reads_slice inferInstance inferInstance (by decide) rd_dot
theorem dotsSets_a (a b : List Dot) (d : Dot) : PCall Try.prog 10 [argAV false [.sl 2 (a.map fun d => dR d) false], argAV false [.sl 2 (b.map fun d => dR d) false], argAV true (dR d)] (.p (.b true)) := dotsSets_w a b false false d
theorem dotsWhole_a (l : List Dot) (d : Dot) (h : ∀ d ∈ l, DB d) : PCall Try.prog 11 [argAV false [.sl 2 (l.map fun d => dR d) false], argAV true (dR d)] (.p (.b true)) := dotsWhole_w l false d fun d hd => (h d hd).2.2
end Go.Proofs.Ytpmobjnaiaogbaa.Ca
