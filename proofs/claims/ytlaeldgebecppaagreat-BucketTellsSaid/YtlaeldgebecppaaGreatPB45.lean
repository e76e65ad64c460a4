/- buckets: BucketTells over what was read -/
import Derived.Test.YtlaeldgebecppaaGreatPB20
import Derived.Test.YtlaeldgebecppaaGreatPB44
namespace Go.Proofs.YtlaeldgebecppaaGreat.Wi
open Go Go.RowKit Go.Aw Go.Aw.Cart Go.Proofs.YtlaeldgebecppaaGreat.Ca
set_option linter.unusedVariables false
set_option linter.unusedSimpArgs false
theorem bucketTells_a (a b : List Kd) (p f : Int) (h : a.length ≤ maxLen ∧ ∀ k ∈ a, KdI k) (k : b.length ≤ maxLen ∧ ∀ k ∈ b, KdI k) : PCall Tryz.prog 3 [argAV false [.sl 10 (a.map fun k => kR k) false], argAV false [.sl 10 (b.map fun k => kR k) false], argAV false [.k .i64 p], argAV false [.k .i64 f]] (.p (.b true)) := bucketTells_w a b false false p f h.1 k.1 h.2 k.2
end Go.Proofs.YtlaeldgebecppaaGreat.Wi
