/- SessionWalks: the statement, out of the law's contract. -/
import Derived.Test.YtkgploeegbmofaaGreatSED09
import Derived.Test.YtkgploeegbmofaaGreatSEA43
import Derived.Test.YtkgploeegbmofaaGreatRows
import Derived.WalkKit
import Derived.ProofKit
import Derived.OpenShut
import Derived.ShutString
import Derived.ChangeOld
import Derived.Below
namespace Go.Proofs.YtkgploeegbmofaaGreat.Wi
open Go Go.ChangeShapes Go.WideShapes Go.ChangeAt Go.RowKit Go.Aw
set_option linter.unusedVariables false
theorem ownSessionWalks:ownKnob Tryz.prog.godebug=none:=by kernel_rfl
theorem laidOutSessionWalks:laidOutB Tryz.prog=true:=by kernel_rfl
set_option maxRecDepth 100000 in
theorem liftedSessionWalks (os:Os) (started:os.Started) (H:Type) (enc:TypeId × Value→H) :
  ReturnsInHanded {} Tryz.checked os 6 .any (Rows.sessionWalksSpec.pre6 enc Tryz.prog Tryz.f6 Rows.sessionWalksRow.domain false) (Rows.sessionWalksSpec.post enc Tryz.prog Tryz.f6 false true false false):=by
 refine returnsInHanded_of_change (C:=Tryz.checked) ownSessionWalks started (by kernel_rfl) Tryz.func6
  (ChangeSpec.witness6 (enc:=enc) (C:=Tryz.checked) false ⟨#[],#[.agg #[.int .i64 0,.int .i64 0,.int .i64 0,.int .i64 0,.int .i64 0,.slice none 0 0,.int .i64 0,.int .i64 0,.int .i64 0,.int .i64 0,.int .i64 0],.slice none 0 0,.slice none 0 0],[]⟩ 8 (by kernel_rfl) (by kernel_rfl) (by kernel_rfl) (by kernel_rfl)) ?_
 intro W base args ds gs before hval0 hW hcnd _
 have hval:∀ (j:Nat) t v,Tryz.f6.params[j]?=some t→args[j]?=some v→Value.okWide Tryz.prog W .any base t v:=hval0
 have hW':=hW
 obtain ⟨p,q,hA0,hV,rfl,hfz,hnd⟩:=hW
 have hA:DataW.TrodAll enc Tryz.prog W 0 (fun _=>true) true Tryz.f6.params.toList args.toList ds p:=hA0
 have hA':=hA
 rw [Tryz.params6] at hA hval
 obtain ⟨v0,vs0,d0,ds0,p0,q0,hargs,rfl,rfl,h0,r0⟩:=trodAll_cons hA
 obtain ⟨v1,vs1,d1,ds1,p1,q1,rfl,rfl,rfl,h1,r1⟩:=trodAll_cons r0
 obtain ⟨v2,vs2,d2,ds2,p2,q2,rfl,rfl,rfl,h2,r2⟩:=trodAll_cons r1
 obtain ⟨rfl,rfl,rfl⟩:=trodAll_nil r2
 obtain rfl:args = #[v0,v1,v2]:=by cases args;simp_all
 obtain ⟨rfl,rfl⟩:=trodVars_none hV
 obtain ⟨a0,k0,hh0⟩:=arg_holds (inferInstance:TI Tryz.prog 63 _ _ _) rd_ses (hval 0 _ v0 rfl rfl) h0
 obtain ⟨a1,k1,hh1⟩:=arg_holds (inferInstance:TI Tryz.prog 36 _ _ _) rd_kds (hval 1 _ v1 rfl rfl) h1
 obtain ⟨a2,k2,hh2⟩:=arg_holds (inferInstance:TI Tryz.prog 36 _ _ _) rd_kds (hval 2 _ v2 rfl rfl) h2
 clear hA0 hval0
 refine (law_calls (vs:=[v0,v1,v2]) (sessionWalks_a a0 a1 a2 k0 k1 k2) (.cons hh0 (.cons hh1 (.cons hh2 .nil)))).mono fun e W' ⟨he,bel⟩=>?_
 subst he
 exact ⟨_,rfl,_,_,_,[],_,[],hW',trodAll_mk1 (shut_bool Tryz.underlying4 _),trodAll_again laidOutSessionWalks bel (by kernel_rfl) hA',rfl,bel.frame _,fun h=>by cases h⟩
set_option maxHeartbeats 4000000 in
set_option maxRecDepth 100000 in
theorem closedSessionWalks:joinedFacts Tryz.pinned.checked.prog 6 Tryz.f6 Rows.sessionWalksSpec Rows.sessionWalksRow=true:=by
 unfold joinedFacts
 simp only [Bool.and_eq_true]
 repeat' apply And.intro
 all_goals as_aux_lemma=>kernel_rfl
theorem sessionWalks_holds:Rows.SessionWalksSaid:=
 OpenClaim.holds_of_wide 6 Tryz.f6 rfl rfl rfl rfl rfl rfl rfl ⟨rfl,rfl,rfl,rfl,rfl⟩ rfl rfl rfl rfl rfl (by as_aux_lemma=>kernel_rfl) Tryz.func6 closedSessionWalks
  (of_decide_eq_true (by as_aux_lemma=>kernel_rfl)) (by unfold Func.isWrapper;first|(rw [if_pos (by decide +kernel)];kernel_rfl)|(rw [if_neg (by decide +kernel)];exact ⟨rfl,rfl⟩))
  (fun os started H enc _=>liftedSessionWalks os started H enc)
#print axioms sessionWalks_holds
end Go.Proofs.YtkgploeegbmofaaGreat.Wi
