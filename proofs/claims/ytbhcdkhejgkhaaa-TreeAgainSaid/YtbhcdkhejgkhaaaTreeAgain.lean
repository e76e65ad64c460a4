/- TreeAgain: the statement, out of the law's contract. -/
import Derived.Test.YtbhcdkhejgkhaaaTrN
import Derived.Test.YtbhcdkhejgkhaaaTrR
import Derived.Test.YtbhcdkhejgkhaaaKf
import Derived.Test.YtbhcdkhejgkhaaaRows
import Derived.WalkKit
import Derived.ProofKit
import Derived.OpenShut
import Derived.ShutString
import Derived.ChangeOld
import Derived.Below
namespace Go.Proofs.Ytbhcdkhejgkhaaa.Tr
open Go Go.ChangeShapes Go.WideShapes Go.ChangeAt Go.RowKit Go.Aw Go.Aw.Tree
set_option linter.unusedVariables false
set_option linter.unusedSimpArgs false

theorem again_a (ls ms : List (List Nat)) (turn : Int) (h : ls.length = 16 ∧ ∀ b ∈ ls, bOk b) (k : ms.length = 16 ∧ ∀ b ∈ ms, bOk b) : PCall Try.prog 13 [argAV true (tRow ls), argAV true (tRow ms), .p (.i turn)] (.p (.b true)) := by
  rw [txs_arg, txs_arg]; exact again_c ls ms turn h.1 k.1
theorem ownTreeAgain : ownKnob Try.prog.godebug = none := by kernel_rfl
theorem laidOutTreeAgain : laidOutB Try.prog = true := by kernel_rfl
set_option maxRecDepth 100000 in
theorem liftedTreeAgain (os : Os) (started : os.Started) (H : Type) (enc : TypeId × Value → H) :
    ReturnsInHanded {} Try.checked os 13 .any (Rows.treeAgainSpec.pre6 enc Try.prog Try.f13 Rows.treeAgainRow.domain false) (Rows.treeAgainSpec.post enc Try.prog Try.f13 false true false false) := by
  refine returnsInHanded_of_change (C := Try.checked) ownTreeAgain started (by kernel_rfl) Try.func13
    (ChangeSpec.witness6 (enc := enc) (C := Try.checked) false ⟨#[], #[.agg #[.slice none 0 0, .slice none 0 0, .slice none 0 0, .slice none 0 0, .slice none 0 0, .slice none 0 0, .slice none 0 0, .slice none 0 0, .slice none 0 0, .slice none 0 0, .slice none 0 0, .slice none 0 0, .slice none 0 0, .slice none 0 0, .slice none 0 0, .slice none 0 0], .agg #[.slice none 0 0, .slice none 0 0, .slice none 0 0, .slice none 0 0, .slice none 0 0, .slice none 0 0, .slice none 0 0, .slice none 0 0, .slice none 0 0, .slice none 0 0, .slice none 0 0, .slice none 0 0, .slice none 0 0, .slice none 0 0, .slice none 0 0, .slice none 0 0], .int .i64 0], []⟩ 8 (by kernel_rfl) (by kernel_rfl) (by kernel_rfl) (by kernel_rfl)) ?_
  intro W base args ds gs before hval0 hW hcnd _
  have hval : ∀ (j : Nat) t v, Try.f13.params[j]? = some t → args[j]? = some v → Value.okWide Try.prog W .any base t v := hval0
  have hW' := hW
  obtain ⟨p, q, hA0, hV, rfl, hfz, hnd⟩ := hW
  have hA : DataW.TrodAll enc Try.prog W 0 (fun _ => true) true Try.f13.params.toList args.toList ds p := hA0
  have hA' := hA
  rw [Try.params13] at hA hval
  obtain ⟨v0, vs0, d0, ds0, p0, q0, hargs, rfl, rfl, h0, r0⟩ := trodAll_cons hA
  obtain ⟨v1, vs1, d1, ds1, p1, q1, rfl, rfl, rfl, h1, r1⟩ := trodAll_cons r0
  obtain ⟨v2, vs2, d2, ds2, p2, q2, rfl, rfl, rfl, h2, r2⟩ := trodAll_cons r1
  obtain ⟨rfl, rfl, rfl⟩ := trodAll_nil r2
  obtain rfl : args = #[v0, v1, v2] := by cases args; simp_all
  obtain ⟨rfl, rfl⟩ := trodVars_none hV
  obtain ⟨a0, k0, hh0⟩ := arg_holds (inferInstance : TI Try.prog 63 _ _ _) rd_txs (hval 0 _ v0 rfl rfl) h0
  obtain ⟨a1, k1, hh1⟩ := arg_holds (inferInstance : TI Try.prog 63 _ _ _) rd_txs (hval 1 _ v1 rfl rfl) h1
  obtain ⟨a2, k2, hh2⟩ := arg_holds (inferInstance : TI Try.prog 3 _ _ _) rd_int (hval 2 _ v2 rfl rfl) h2
  clear hA0 hval0
  refine (law_calls (vs := [v0, v1, v2]) (again_a a0 a1 a2 k0 k1) (.cons hh0 (.cons hh1 (.cons hh2 .nil)))).mono fun e W' ⟨he, bel⟩ => ?_
  subst he
  exact ⟨_, rfl, _, _, _, [], _, [], hW', trodAll_mk1 (shut_bool Try.underlying4 _), trodAll_again laidOutTreeAgain bel (by kernel_rfl) hA', rfl, bel.frame _, fun h => by cases h⟩

/-- The law's statement. -/
theorem treeAgain_holds : Rows.TreeAgainSaid :=
  OpenClaim.holds_of_wide 13 Try.f13 rfl rfl rfl rfl rfl rfl rfl ⟨rfl, rfl, rfl, rfl, rfl⟩ rfl rfl rfl rfl rfl (by kernel_rfl) Try.func13 (by kernel_rfl)
    (of_decide_eq_true (by kernel_rfl)) (by unfold Func.isWrapper; first | (rw [if_pos (by decide +kernel)]; kernel_rfl) | (rw [if_neg (by decide +kernel)]; exact ⟨rfl, rfl⟩))
    (fun os started H enc _ => liftedTreeAgain os started H enc)
#print axioms treeAgain_holds
end Go.Proofs.Ytbhcdkhejgkhaaa.Tr
