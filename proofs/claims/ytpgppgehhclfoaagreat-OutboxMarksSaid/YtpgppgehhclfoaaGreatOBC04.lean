/- OutboxMarks: facts of the statement that the kernel reckons. -/
import Derived.Test.YtpgppgehhclfoaaGreatOBA05
import Derived.Test.YtpgppgehhclfoaaGreatRows
import Derived.WalkKit
import Derived.ProofKit
import Derived.OpenShut
import Derived.ShutString
import Derived.ChangeOld
import Derived.Below
namespace Go.Proofs.YtpgppgehhclfoaaGreat.Wi
open Go Go.ChangeShapes Go.WideShapes Go.ChangeAt Go.RowKit Go.Aw
set_option linter.unusedVariables false
theorem ownOutboxMarks:ownKnob Tryz.prog.godebug=none:=by kernel_rfl
theorem laidOutOutboxMarks:laidOutB Tryz.prog=true:=by kernel_rfl
set_option maxHeartbeats 4000000 in
set_option maxRecDepth 100000 in
theorem closedOutboxMarks:joinedFacts Tryz.pinned.checked.prog 5 Tryz.f5 Rows.outboxMarksSpec Rows.outboxMarksRow=true:=by
 unfold joinedFacts
 simp only [Bool.and_eq_true]
 repeat' apply And.intro
 all_goals as_aux_lemma=>kernel_rfl
end Go.Proofs.YtpgppgehhclfoaaGreat.Wi
