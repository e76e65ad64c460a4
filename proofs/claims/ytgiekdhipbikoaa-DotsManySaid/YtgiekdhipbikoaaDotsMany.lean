/- DotsMany: the statement, out of the law's contract. -/
import Derived.Test.YtgiekdhipbikoaaCf4
import Derived.Test.YtgiekdhipbikoaaKf
import Derived.Test.YtgiekdhipbikoaaRows
import Derived.WalkKit
import Derived.ProofKit
import Derived.OpenShut
import Derived.ShutString
import Derived.ChangeOld
import Derived.Below
namespace Go.Proofs.Ytgiekdhipbikoaa.Ca
open Go Go.ChangeShapes Go.WideShapes Go.ChangeAt Go.RowKit Go.Aw
set_option linter.unusedVariables false

theorem ownDotsMany : ownKnob Try.prog.godebug = none := by kernel_rfl
theorem laidOutDotsMany : laidOutB Try.prog = true := by kernel_rfl
set_option maxRecDepth 100000 in
theorem liftedDotsMany (os : Os) (started : os.Started) (H : Type) (enc : TypeId × Value → H) :
    ReturnsInHanded {} Try.checked os 4 .any (Rows.dotsManySpec.pre6 enc Try.prog Try.f4 Rows.dotsManyRow.domain false) (Rows.dotsManySpec.post enc Try.prog Try.f4 false true false false) := by
  refine returnsInHanded_of_change (C := Try.checked) ownDotsMany started (by kernel_rfl) Try.func4
    (ChangeSpec.witness6 (enc := enc) (C := Try.checked) false ⟨#[], #[.int .u16 0, .int .i64 0], []⟩ 8 (by kernel_rfl) (by kernel_rfl) (by kernel_rfl) (by kernel_rfl)) ?_
  intro W base args ds gs before hval0 hW hcnd _
  have hval : ∀ (j : Nat) t v, Try.f4.params[j]? = some t → args[j]? = some v → Value.okWide Try.prog W .any base t v := hval0
  have hW' := hW
  obtain ⟨p, q, hA0, hV, rfl, hfz, hnd⟩ := hW
  have hA : DataW.TrodAll enc Try.prog W 0 (fun _ => true) true Try.f4.params.toList args.toList ds p := hA0
  have hA' := hA
  rw [Try.params4] at hA hval
  obtain ⟨v0, vs0, d0, ds0, p0, q0, hargs, rfl, rfl, h0, r0⟩ := trodAll_cons hA
  obtain ⟨v1, vs1, d1, ds1, p1, q1, rfl, rfl, rfl, h1, r1⟩ := trodAll_cons r0
  obtain ⟨rfl, rfl, rfl⟩ := trodAll_nil r1
  obtain rfl : args = #[v0, v1] := by cases args; simp_all
  obtain ⟨rfl, rfl⟩ := trodVars_none hV
  obtain ⟨a0, k0, hh0⟩ := arg_holds (inferInstance : TI Try.prog 49 _ _ _) rd_u16d (hval 0 _ v0 rfl rfl) h0
  obtain ⟨a1, k1, hh1⟩ := arg_holds (inferInstance : TI Try.prog 3 _ _ _) rd_int (hval 1 _ v1 rfl rfl) h1
  clear hA0 hval0
  refine (law_calls (vs := [v0, v1]) (dotsMany_a a0 a1 k0) (.cons hh0 (.cons hh1 .nil))).mono fun e W' ⟨he, bel⟩ => ?_
  subst he
  exact ⟨_, rfl, _, _, _, [], _, [], hW', trodAll_mk1 (shut_bool Try.underlying4 _), trodAll_again laidOutDotsMany bel (by kernel_rfl) hA', rfl, bel.frame _, fun h => by cases h⟩

/-- The law's statement. -/
theorem dotsMany_holds : Rows.DotsManySaid :=
  OpenClaim.holds_of_wide 4 Try.f4 rfl rfl rfl rfl rfl rfl rfl ⟨rfl, rfl, rfl, rfl, rfl⟩ rfl rfl rfl rfl rfl (by kernel_rfl) Try.func4 (by kernel_rfl)
    (of_decide_eq_true (by kernel_rfl)) (by unfold Func.isWrapper; first | (rw [if_pos (by decide +kernel)]; kernel_rfl) | (rw [if_neg (by decide +kernel)]; exact ⟨rfl, rfl⟩))
    (fun os started H enc _ => liftedDotsMany os started H enc)
#print axioms dotsMany_holds
end Go.Proofs.Ytgiekdhipbikoaa.Ca
