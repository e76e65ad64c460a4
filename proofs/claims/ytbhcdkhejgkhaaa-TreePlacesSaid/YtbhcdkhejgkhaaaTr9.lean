/- trees: all digests above a place -/
import Derived.Test.YtbhcdkhejgkhaaaTr8
import Derived.Test.YtbhcdkhejgkhaaaKf
namespace Go.Proofs.Ytbhcdkhejgkhaaa.Tr
open Go Go.RowKit Go.Aw Go.Aw.Sha Go.Aw.Tree Go.Proofs.Ytbhcdkhejgkhaaa.Sh
set_option linter.unusedVariables false
set_option linter.unusedSimpArgs false
set_option maxRecDepth 8000
attribute [local irreducible] sum
set_option maxHeartbeats 4000000

theorem ups_c (T : List Nat) (p : Int) (hT : T.length = 672 ∧ p ≤ 4) : PCall Try.prog 68 [tv T, .p (.i p)] (tv (upsF T p)) := by
  refine pcall_of Try.func68 rfl (fun w0 F S0 M0 => ?_)
  repeat' (first
      | refine rnB ?_
      | refine rnSB ?_
      | refine rnG ?_
      | refine rnU ?_
      | ((fail_if_success (refine rnKn ?_)); refine rnP ?_ ?_ <;> (intro hq; try (have hq' := hq; simp only [hqs] at hq')))
      | refine rkB ?_
      | refine rkSB ?_
      | refine rkF ?_
      | refine rkU ?_
      | ((fail_if_success (refine rkKn ?_)); refine rkP ?_ ?_ <;> (intro hq; try (have hq' := hq; simp only [hqs] at hq')))
      | refine stp ?_
      | refine ifT ?_
      | refine ifF ?_
      | (refine ifQ ?_ ?_ <;> (try (intro hn)))
      | (refine ifB ?_ ?_ <;> (intro hq; try (have hq' := hq; simp only [hqs] at hq'))))
  refine aws_scopeL [1, 5, 6, 7, 8, 9, 10, 11, 12, 13, 14, 15, 16] [2, 4] (fun (x : List Nat × Int) => [(1, .p (.i x.2))]) (fun x => [(2, (1, some (.box 68 (x.1.map bc)))), (4, (1, some (.box 68 ((List.replicate 672 (Value.int .u8 0)).map fun v => .p (.v v)))))])
    (fun x => x.1.length = 672 ∧ x.2 ≤ 4 ∧ upsF x.1 x.2 = upsF T p) (fun x => (x.2 + 1).toNat) (T, p) ⟨hT.1, hT.2, rfl⟩ (by exact knA) (by exact knA) ?_
  rintro ⟨U, q⟩ β γ ⟨hU, hq4, hup⟩
  simp only at hU hq4 hup
  dsimp only
  by_cases hq0 : q < 0
  · have hd : decide (q < 0) = true := decide_eq_true hq0
    repeat' (first
        | refine rnB ?_
        | refine rnSB ?_
        | refine rnG ?_
        | refine rnU ?_
        | ((fail_if_success (refine rnKn ?_)); refine rnP ?_ ?_ <;> (intro hq; try (have hq' := hq; simp only [hqs] at hq')))
        | refine rkB ?_
        | refine rkSB ?_
        | refine rkF ?_
        | refine rkU ?_
        | ((fail_if_success (refine rkKn ?_)); refine rkP ?_ ?_ <;> (intro hq; try (have hq' := hq; simp only [hqs] at hq')))
        | refine stp ?_
        | refine ifT ?_
        | refine ifF ?_
        | (refine ifQ ?_ ?_ <;> (try (intro hn)))
        | (refine ifB ?_ ?_ <;> (intro hq; try (have hq' := hq; simp only [hqs] at hq'))))
    refine rc1 rfl rfl rfl rfl rfl (by simpa using hU) finL_p ?_
    rw [← hup, upsF_out hq0]
  · have hd : decide (q < 0) = false := decide_eq_false hq0
    have hbl := belowF_len (T := U) (p := q) hU
    have hsl : (sum (belowF U q)).length = 32 := sumLen _
    repeat' (first
        | refine rnB ?_
        | refine rnSB ?_
        | refine rnG ?_
        | refine rnU ?_
        | ((fail_if_success (refine rnKn ?_)); refine rnP ?_ ?_ <;> (intro hq; try (have hq' := hq; simp only [hqs] at hq')))
        | refine rkB ?_
        | refine rkSB ?_
        | refine rkF ?_
        | refine rkU ?_
        | ((fail_if_success (refine rkKn ?_)); refine rkP ?_ ?_ <;> (intro hq; try (have hq' := hq; simp only [hqs] at hq')))
        | refine stp ?_
        | refine ifT ?_
        | refine ifF ?_
        | (refine ifQ ?_ ?_ <;> (try (intro hn)))
        | (refine ifB ?_ ?_ <;> (intro hq; try (have hq' := hq; simp only [hqs] at hq'))))
    refine ⟨rfl, (fixF U q.toNat, upF q), _, upF_dec (by omega), ⟨fixF_len hU (by omega), upF_le, by rw [← hup, ← upsF_step (by omega)]⟩, .refl, ?_⟩
    have e := fixF_int (T := U) (q := q) (by omega)
    dsimp only
    rw [e]
    exact frA
instance {T : List Nat} {p : Int} : PC Try.prog 68 [tv T, .p (.i p)] (T.length = 672 ∧ p ≤ 4) (tv (upsF T p)) := ⟨ups_c T p⟩
end Go.Proofs.Ytbhcdkhejgkhaaa.Tr
