/- carts, the laws: CartDots -/
import Derived.Test.YtacofbbclmbbeaaCaV
namespace Go.Proofs.Ytacofbbclmbbeaa.Ca
open Go Go.RowKit Go.Aw Go.Aw.Cart Go.Aw.Ord Go.Sort
set_option linter.unusedVariables false
set_option linter.unusedSimpArgs false
set_option maxRecDepth 8000
set_option maxHeartbeats 4000000
theorem dots_law {v : List Int} {l : List Ent} (h : rightF v l = true) (d : Dot) :
    (decide (d ∈ liveF l) = true ∧ isOffF v l d = false ∧ hasF v d = true) ∨ (decide (d ∈ liveF l) = false ∧ isOffF v l d = true ∧ hasF v d = true) ∨ (decide (d ∈ liveF l) = false ∧ isOffF v l d = false ∧ hasF v d = false) := by
  have o := ok_iff.1 h
  have e : decide (d ∈ liveF l) = l.any fun e => decide (dotE e = d) := by
    rw [Bool.eq_iff_iff, decide_eq_true_eq, o.live, List.mem_map, List.any_eq_true]
    simp
  rw [e]
  unfold isOffF
  cases hq : (l.any fun e => decide (dotE e = d)) with
  | true =>
    obtain ⟨x, hx, hxd⟩ := List.any_eq_true.1 hq
    have hd := of_decide_eq_true hxd
    have := o.has x hx
    rw [hd] at this
    exact .inl ⟨rfl, by simp, this⟩
  | false =>
    cases hh : hasF v d with
    | true => exact .inr (.inl ⟨rfl, rfl, rfl⟩)
    | false => exact .inr (.inr ⟨rfl, rfl, rfl⟩)
theorem cartDots_w (v : List Int) (l : List Ent) (ex : Bool) (d : Dot) (hv : v.length = 8) : PCall Try.prog 10 [cV v l ex, dV d] (.p (.b true)) := by
  refine pcall_of Try.func10 rfl (fun w0 F S0 M0 => ?_)
  by_cases hg : 60 < l.length
  · have d1 : decide (60 < (l.length : Int)) = true := decide_eq_true (by omega)
    repeat' (first
        | refine rnV ?_
        | refine rnSQ ?_
        | refine rnG ?_
        | refine rnU ?_
        | ((fail_if_success (refine rnKn ?_)); refine rnP ?_ ?_ <;> (intro hq; try (have hq' := hq; simp only [hqs] at hq')))
        | refine rkV ?_
        | refine rkSQ ?_
        | refine rkF ?_
        | refine rkU ?_
        | ((fail_if_success (refine rkKn ?_)); refine rkP ?_ ?_ <;> (intro hq; try (have hq' := hq; simp only [hqs] at hq')))
        | refine stp ?_
        | refine aws_draws [] mixed (by kernel_rfl) ?_
        | refine ifT ?_
        | refine ifF ?_
        | (refine ifQ ?_ ?_ <;> (try (intro hn)))
        | (refine ifB ?_ ?_ <;> (intro hq; try (have hq' := hq; simp only [hqs] at hq'))))
    exact rt1 rfl rfl finS_p rfl
  · have d1 : decide (60 < (l.length : Int)) = false := decide_eq_false (by omega)
    have hl : l.length ≤ 1000000 := by omega
    have hl2 : l.length ≤ 1000000000 := by omega
    have hlv : (liveF l).length ≤ 1000000000 := by
      rw [live_set l (by omega)]
      have := setF_len (l.map dotE)
      rw [List.length_map] at this; omega
    cases hr : rightF v l with
    | false =>
      have d2 : (!rightF v l) = true := by rw [hr]; rfl
      repeat' (first
          | refine rnV ?_
          | refine rnSQ ?_
          | refine rnG ?_
          | refine rnU ?_
          | ((fail_if_success (refine rnKn ?_)); refine rnP ?_ ?_ <;> (intro hq; try (have hq' := hq; simp only [hqs] at hq')))
          | refine rkV ?_
          | refine rkSQ ?_
          | refine rkF ?_
          | refine rkU ?_
          | ((fail_if_success (refine rkKn ?_)); refine rkP ?_ ?_ <;> (intro hq; try (have hq' := hq; simp only [hqs] at hq')))
          | refine stp ?_
          | refine aws_draws [] mixed (by kernel_rfl) ?_
          | refine ifT ?_
          | refine ifF ?_
          | (refine ifQ ?_ ?_ <;> (try (intro hn)))
          | (refine ifB ?_ ?_ <;> (intro hq; try (have hq' := hq; simp only [hqs] at hq'))))
      exact rt1 rfl rfl finS_p rfl
    | true =>
      have d2 : (!rightF v l) = false := by rw [hr]; rfl
      rcases dots_law hr d with ⟨h1, h2, h3⟩ | ⟨h1, h2, h3⟩ | ⟨h1, h2, h3⟩
      · have k1 : (true == hasF v d) = true := by rw [h3]; rfl
        have k3 : (!isOffF v l d) = true := by rw [h2]; rfl
        repeat' (first
            | refine rnV ?_
            | refine rnSQ ?_
            | refine rnG ?_
            | refine rnU ?_
            | ((fail_if_success (refine rnKn ?_)); refine rnP ?_ ?_ <;> (intro hq; try (have hq' := hq; simp only [hqs] at hq')))
            | refine rkV ?_
            | refine rkSQ ?_
            | refine rkF ?_
            | refine rkU ?_
            | ((fail_if_success (refine rkKn ?_)); refine rkP ?_ ?_ <;> (intro hq; try (have hq' := hq; simp only [hqs] at hq')))
            | refine stp ?_
            | refine aws_draws [] mixed (by kernel_rfl) ?_
            | refine ifT ?_
            | refine ifF ?_
            | (refine ifQ ?_ ?_ <;> (try (intro hn)))
            | (refine ifB ?_ ?_ <;> (intro hq; try (have hq' := hq; simp only [hqs] at hq'))))
        exact rt1 rfl rfl finS_p (rb k3.symm)
      · have k2 : (isOffF v l d == hasF v d) = true := by rw [h2, h3]; rfl
        repeat' (first
            | refine rnV ?_
            | refine rnSQ ?_
            | refine rnG ?_
            | refine rnU ?_
            | ((fail_if_success (refine rnKn ?_)); refine rnP ?_ ?_ <;> (intro hq; try (have hq' := hq; simp only [hqs] at hq')))
            | refine rkV ?_
            | refine rkSQ ?_
            | refine rkF ?_
            | refine rkU ?_
            | ((fail_if_success (refine rkKn ?_)); refine rkP ?_ ?_ <;> (intro hq; try (have hq' := hq; simp only [hqs] at hq')))
            | refine stp ?_
            | refine aws_draws [] mixed (by kernel_rfl) ?_
            | refine ifT ?_
            | refine ifF ?_
            | (refine ifQ ?_ ?_ <;> (try (intro hn)))
            | (refine ifB ?_ ?_ <;> (intro hq; try (have hq' := hq; simp only [hqs] at hq'))))
        exact rt1 rfl rfl finS_p rfl
      · have k2 : (isOffF v l d == hasF v d) = true := by rw [h2, h3]; rfl
        repeat' (first
            | refine rnV ?_
            | refine rnSQ ?_
            | refine rnG ?_
            | refine rnU ?_
            | ((fail_if_success (refine rnKn ?_)); refine rnP ?_ ?_ <;> (intro hq; try (have hq' := hq; simp only [hqs] at hq')))
            | refine rkV ?_
            | refine rkSQ ?_
            | refine rkF ?_
            | refine rkU ?_
            | ((fail_if_success (refine rkKn ?_)); refine rkP ?_ ?_ <;> (intro hq; try (have hq' := hq; simp only [hqs] at hq')))
            | refine stp ?_
            | refine aws_draws [] mixed (by kernel_rfl) ?_
            | refine ifT ?_
            | refine ifF ?_
            | (refine ifQ ?_ ?_ <;> (try (intro hn)))
            | (refine ifB ?_ ?_ <;> (intro hq; try (have hq' := hq; simp only [hqs] at hq'))))
        exact rt1 rfl rfl finS_p rfl
end Go.Proofs.Ytacofbbclmbbeaa.Ca
