/- carts, the laws: CartDots -/
import Derived.Test.YtpmobjnaiaogbaaCaV
namespace Go.Proofs.Ytpmobjnaiaogbaa.Ca
open Go Go.RowKit Go.Aw Go.Aw.Cart Go.Aw.Ord Go.Sort
set_option linter.unusedVariables false
set_option linter.unusedSimpArgs false
set_option maxRecDepth 8000
set_option maxHeartbeats 4000000
theorem dots_law {v : List Int} {l : List Ent} (h : rightF v l = true) (d : Dot) :
    (decide (d ∈ liveF l) = true ∧ isOffF v l d = false ∧ hasF v d = true) ∨ (decide (d ∈ liveF l) = false ∧ isOffF v l d = true ∧ hasF v d = true) ∨ (decide (d ∈ liveF l) = false ∧ isOffF v l d = false ∧ hasF v d = false) := by
  have o := ok_iff.1 h
  have e : decide (d ∈ liveF l) = l.any fun e => decide (dotE e = d) := by
    rw [Bool.eq_iff_iff, decide_eq_true_eq, o.live, List.mem_map, List.any_eq_true]
    simp
  rw [e]
  unfold isOffF
  cases hq : (l.any fun e => decide (dotE e = d)) with
  | true =>
    obtain ⟨x, hx, hxd⟩ := List.any_eq_true.1 hq
    have hd := of_decide_eq_true hxd
    have := o.has x hx
    rw [hd] at this
    exact .inl ⟨rfl, by simp, this⟩
  | false =>
    cases hh : hasF v d with
    | true => exact .inr (.inl ⟨rfl, rfl, rfl⟩)
    | false => exact .inr (.inr ⟨rfl, rfl, rfl⟩)
end Go.Proofs.Ytpmobjnaiaogbaa.Ca
