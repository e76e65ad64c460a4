/- BucketPuts: the statement, out of the law's contract. -/
import Derived.Test.YtbfjcohocedoaaaS6
import Derived.Test.YtbfjcohocedoaaaKf
import Derived.Test.YtbfjcohocedoaaaRows
import Derived.WalkKit
import Derived.ProofKit
import Derived.OpenShut
import Derived.ShutString
import Derived.ChangeOld
import Derived.Below
namespace Go.Proofs.Ytbfjcohocedoaaa.Wi
open Go Go.ChangeShapes Go.WideShapes Go.ChangeAt Go.RowKit Go.Aw
set_option linter.unusedVariables false

theorem ownBucketPuts : ownKnob Try.prog.godebug = none := by kernel_rfl
theorem laidOutBucketPuts : laidOutB Try.prog = true := by kernel_rfl
set_option maxRecDepth 100000 in
theorem liftedBucketPuts (os : Os) (started : os.Started) (H : Type) (enc : TypeId × Value → H) :
    ReturnsInHanded {} Try.checked os 7 .any (Rows.bucketPutsSpec.pre6 enc Try.prog Try.f7 Rows.bucketPutsRow.domain false) (Rows.bucketPutsSpec.post enc Try.prog Try.f7 false true false false) := by
  refine returnsInHanded_of_change (C := Try.checked) ownBucketPuts started (by kernel_rfl) Try.func7
    (ChangeSpec.witness6 (enc := enc) (C := Try.checked) false ⟨#[], #[.slice none 0 0, .string ByteArray.empty, .agg #[.int .u64 0, .int .u64 0, .int .u64 0, .int .u64 0, .int .u64 0, .int .u64 0, .int .u64 0, .int .u64 0, .slice none 0 0]], []⟩ 8 (by kernel_rfl) (by kernel_rfl) (by kernel_rfl) (by kernel_rfl)) ?_
  intro W base args ds gs before hval0 hW hcnd _
  have hval : ∀ (j : Nat) t v, Try.f7.params[j]? = some t → args[j]? = some v → Value.okWide Try.prog W .any base t v := hval0
  have hW' := hW
  obtain ⟨p, q, hA0, hV, rfl, hfz, hnd⟩ := hW
  have hA : DataW.TrodAll enc Try.prog W 0 (fun _ => true) true Try.f7.params.toList args.toList ds p := hA0
  have hA' := hA
  rw [Try.params7] at hA hval
  obtain ⟨v0, vs0, d0, ds0, p0, q0, hargs, rfl, rfl, h0, r0⟩ := trodAll_cons hA
  obtain ⟨v1, vs1, d1, ds1, p1, q1, rfl, rfl, rfl, h1, r1⟩ := trodAll_cons r0
  obtain ⟨v2, vs2, d2, ds2, p2, q2, rfl, rfl, rfl, h2, r2⟩ := trodAll_cons r1
  obtain ⟨rfl, rfl, rfl⟩ := trodAll_nil r2
  obtain rfl : args = #[v0, v1, v2] := by cases args; simp_all
  obtain ⟨rfl, rfl⟩ := trodVars_none hV
  obtain ⟨a0, k0, hh0⟩ := arg_holds (inferInstance : TI Try.prog 22 _ _ _) rd_kds (hval 0 _ v0 rfl rfl) h0
  obtain ⟨a1, k1, hh1⟩ := arg_holds (inferInstance : TI Try.prog 9 _ _ _) rd_keyP (hval 1 _ v1 rfl rfl) h1
  obtain ⟨a2, k2, hh2⟩ := arg_holds (inferInstance : TI Try.prog 32 _ _ _) Ca.rd_cart (hval 2 _ v2 rfl rfl) h2
  clear hA0 hval0
  refine (law_calls (vs := [v0, v1, v2]) (bucketPuts_a a0 a1 a2 k0 k1 k2) (.cons hh0 (.cons hh1 (.cons hh2 .nil)))).mono fun e W' ⟨he, bel⟩ => ?_
  subst he
  exact ⟨_, rfl, _, _, _, [], _, [], hW', trodAll_mk1 (shut_bool Try.underlying4 _), trodAll_again laidOutBucketPuts bel (by kernel_rfl) hA', rfl, bel.frame _, fun h => by cases h⟩

/-- The law's statement. -/
theorem bucketPuts_holds : Rows.BucketPutsSaid :=
  OpenClaim.holds_of_wide 7 Try.f7 rfl rfl rfl rfl rfl rfl rfl ⟨rfl, rfl, rfl, rfl, rfl⟩ rfl rfl rfl rfl rfl (by kernel_rfl) Try.func7 (by kernel_rfl)
    (of_decide_eq_true (by kernel_rfl)) (by unfold Func.isWrapper; first | (rw [if_pos (by decide +kernel)]; kernel_rfl) | (rw [if_neg (by decide +kernel)]; exact ⟨rfl, rfl⟩))
    (fun os started H enc _ => liftedBucketPuts os started H enc)
#print axioms bucketPuts_holds
end Go.Proofs.Ytbfjcohocedoaaa.Wi
