/- OutboxMarks: the statement, out of the law's contract. -/
import Derived.Test.YtpgppgehhclfoaaGreatOBB72
import Derived.Test.YtpgppgehhclfoaaGreatOBA05
import Derived.Test.YtpgppgehhclfoaaGreatRows
import Derived.Test.YtpgppgehhclfoaaGreatOBC04
import Derived.WalkKit
import Derived.ProofKit
import Derived.OpenShut
import Derived.ShutString
import Derived.ChangeOld
import Derived.Below
namespace Go.Proofs.YtpgppgehhclfoaaGreat.Wi
open Go Go.ChangeShapes Go.WideShapes Go.ChangeAt Go.RowKit Go.Aw
set_option linter.unusedVariables false
set_option maxRecDepth 100000 in
theorem liftedOutboxMarks (os:Os) (started:os.Started) (H:Type) (enc:TypeId × Value→H) :
  ReturnsInHanded {} Tryz.checked os 5 .any (Rows.outboxMarksSpec.pre6 enc Tryz.prog Tryz.f5 Rows.outboxMarksRow.domain false) (Rows.outboxMarksSpec.post enc Tryz.prog Tryz.f5 false true false false):=by
 refine returnsInHanded_of_change (C:=Tryz.checked) ownOutboxMarks started (by kernel_rfl) Tryz.func5
  (ChangeSpec.witness6 (enc:=enc) (C:=Tryz.checked) false ⟨#[],#[.slice none 0 0],[]⟩ 8 (by kernel_rfl) (by kernel_rfl) (by kernel_rfl) (by kernel_rfl)) ?_
 intro W base args ds gs before hval0 hW hcnd _
 have hval:∀ (j:Nat) t v,Tryz.f5.params[j]?=some t→args[j]?=some v→Value.okWide Tryz.prog W .any base t v:=hval0
 have hW':=hW
 obtain ⟨p,q,hA0,hV,rfl,hfz,hnd⟩:=hW
 have hA:DataW.TrodAll enc Tryz.prog W 0 (fun _=>true) true Tryz.f5.params.toList args.toList ds p:=hA0
 have hA':=hA
 rw [Tryz.params5] at hA hval
 obtain ⟨v0,vs0,d0,ds0,p0,q0,hargs,rfl,rfl,h0,r0⟩:=trodAll_cons hA
 obtain ⟨rfl,rfl,rfl⟩:=trodAll_nil r0
 obtain rfl:args = #[v0]:=by cases args;simp_all
 obtain ⟨rfl,rfl⟩:=trodVars_none hV
 obtain ⟨a0,k0,hh0⟩:=arg_holds (inferInstance:TI Tryz.prog 48 _ _ _) rd_obs (hval 0 _ v0 rfl rfl) h0
 clear hA0 hval0
 refine (law_calls (vs:=[v0]) (outboxMarks_a a0 k0) (.cons hh0 .nil)).mono fun e W' ⟨he,bel⟩=>?_
 subst he
 exact ⟨_,rfl,_,_,_,[],_,[],hW',trodAll_mk1 (shut_bool Tryz.underlying4 _),trodAll_again laidOutOutboxMarks bel (by kernel_rfl) hA',rfl,bel.frame _,fun h=>by cases h⟩
theorem outboxMarks_holds:Rows.OutboxMarksSaid:=
 OpenClaim.holds_of_wide 5 Tryz.f5 rfl rfl rfl rfl rfl rfl rfl ⟨rfl,rfl,rfl,rfl,rfl⟩ rfl rfl rfl rfl rfl (by as_aux_lemma=>kernel_rfl) Tryz.func5 closedOutboxMarks
  (of_decide_eq_true (by as_aux_lemma=>kernel_rfl)) (by unfold Func.isWrapper;first|(rw [if_pos (by decide +kernel)];kernel_rfl)|(rw [if_neg (by decide +kernel)];exact ⟨rfl,rfl⟩))
  (fun os started H enc _=>liftedOutboxMarks os started H enc)
#print axioms outboxMarks_holds
end Go.Proofs.YtpgppgehhclfoaaGreat.Wi
