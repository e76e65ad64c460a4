/- carts: tallies -/
import Derived.Test.YtacofbbclmbbeaaCa1
import Derived.Test.YtacofbbclmbbeaaKj
namespace Go.Proofs.Ytacofbbclmbbeaa.Ca
open Go Go.RowKit Go.Aw Go.Aw.Cart
set_option linter.unusedVariables false
set_option linter.unusedSimpArgs false
set_option maxRecDepth 8000
set_option maxHeartbeats 4000000
def mnF (a : Int) : Int := if 4611686018427387904 < a then 4611686018427387904 else a
def moreF (a b : Int) : Int := mnF (mnF a + mnF b)
theorem mnF_in {a : Int} (h : 0 ≤ a) : 0 ≤ mnF a ∧ mnF a ≤ 4611686018427387904 := by unfold mnF; split <;> omega
abbrev tL (t : Int × Int) : List AC := [.p (.k .u64 t.1), .p (.k .u64 t.2)]
abbrev tV (t : Int × Int) : AV := .a (tL t)
theorem more_w (a b : Int) (h : 0 ≤ a ∧ 0 ≤ b) : PCall Try.prog 99 [.p (.k .u64 a), .p (.k .u64 b)] (.p (.k .u64 (moreF a b))) := by
  refine pcall_of Try.func99 rfl (fun w0 F S0 M0 => ?_)
  have h1 := mnF_in h.1
  have h2 := mnF_in h.2
  unfold mnF at h1 h2
  repeat' (first
      | refine rnJ ?_
      | refine rnSB ?_
      | refine rnG ?_
      | refine rnU ?_
      | ((fail_if_success (refine rnKn ?_)); refine rnP ?_ ?_ <;> (intro hq; try (have hq' := hq; simp only [hqs] at hq')))
      | refine rkJ ?_
      | refine rkSB ?_
      | refine rkF ?_
      | refine rkU ?_
      | ((fail_if_success (refine rkKn ?_)); refine rkP ?_ ?_ <;> (intro hq; try (have hq' := hq; simp only [hqs] at hq')))
      | refine stp ?_
      | refine aws_draws [] mixed (by kernel_rfl) ?_
      | refine ifT ?_
      | refine ifF ?_
      | (refine ifQ ?_ ?_ <;> (try (intro hn)))
      | (refine ifB ?_ ?_ <;> (intro hq; try (have hq' := hq; simp only [hqs] at hq'))))
  exact rt1 rfl rfl finS_p rfl
instance {a b : Int} : PC Try.prog 99 [.p (.k .u64 a), .p (.k .u64 b)] (0 ≤ a ∧ 0 ≤ b) (.p (.k .u64 (moreF a b))) := ⟨more_w a b⟩
def plusF (a b : Int × Int) : Int × Int := (moreF a.1 b.1, moreF a.2 b.2)
theorem plus_w (a b : Int × Int) (h : 0 ≤ a.1 ∧ 0 ≤ b.1 ∧ 0 ≤ a.2 ∧ 0 ≤ b.2) : PCall Try.prog 72 [tV a, tV b] (tV (plusF a b)) := by
  refine pcall_of Try.func72 rfl (fun w0 F S0 M0 => ?_)
  obtain ⟨h1, h2, h3, h4⟩ := h
  repeat' (first
      | refine rnJ ?_
      | refine rnSB ?_
      | refine rnG ?_
      | refine rnU ?_
      | ((fail_if_success (refine rnKn ?_)); refine rnP ?_ ?_ <;> (intro hq; try (have hq' := hq; simp only [hqs] at hq')))
      | refine rkJ ?_
      | refine rkSB ?_
      | refine rkF ?_
      | refine rkU ?_
      | ((fail_if_success (refine rkKn ?_)); refine rkP ?_ ?_ <;> (intro hq; try (have hq' := hq; simp only [hqs] at hq')))
      | refine stp ?_
      | refine ifT ?_
      | refine ifF ?_
      | (refine ifQ ?_ ?_ <;> (try (intro hn)))
      | (refine ifB ?_ ?_ <;> (intro hq; try (have hq' := hq; simp only [hqs] at hq'))))
  refine aws_draws [(11, 4)] mixed (by kernel_rfl) ?_
  repeat' (first
      | refine rk_nil ?_
      | refine rkJ ?_
      | refine rkSB ?_
      | refine rkF ?_
      | refine rkU ?_
      | ((fail_if_success (refine rkKn ?_)); refine rkP ?_ ?_ <;> (intro hq; try (have hq' := hq; simp only [hqs] at hq'))))
  repeat' (first
      | refine rnJ ?_
      | refine rnSB ?_
      | refine rnG ?_
      | refine rnU ?_
      | ((fail_if_success (refine rnKn ?_)); refine rnP ?_ ?_ <;> (intro hq; try (have hq' := hq; simp only [hqs] at hq')))
      | refine rkJ ?_
      | refine rkSB ?_
      | refine rkF ?_
      | refine rkU ?_
      | ((fail_if_success (refine rkKn ?_)); refine rkP ?_ ?_ <;> (intro hq; try (have hq' := hq; simp only [hqs] at hq')))
      | refine stp ?_
      | refine ifT ?_
      | refine ifF ?_
      | (refine ifQ ?_ ?_ <;> (try (intro hn)))
      | (refine ifB ?_ ?_ <;> (intro hq; try (have hq' := hq; simp only [hqs] at hq'))))
  exact rc1 rfl rfl rfl rfl rfl rfl finL_p rfl
instance {a b : Int × Int} : PC Try.prog 72 [tV a, tV b] (0 ≤ a.1 ∧ 0 ≤ b.1 ∧ 0 ≤ a.2 ∧ 0 ≤ b.2) (tV (plusF a b)) := ⟨plus_w a b⟩
def valF (t : Int × Int) : Int := if t.1 ≤ t.2 then 0 else t.1 - t.2
theorem value_w (t : Int × Int) (h : 0 ≤ t.1 ∧ 0 ≤ t.2 ∧ t.1 < 18446744073709551616) : PCall Try.prog 40 [tV t] (.p (.k .u64 (valF t))) := by
  refine pcall_of Try.func40 rfl (fun w0 F S0 M0 => ?_)
  unfold valF
  by_cases h1 : t.1 ≤ t.2
  · have d1 : decide (t.1 ≤ t.2) = true := decide_eq_true h1
    rw [if_pos h1]
    repeat' (first
        | refine rnJ ?_
        | refine rnSB ?_
        | refine rnG ?_
        | refine rnU ?_
        | ((fail_if_success (refine rnKn ?_)); refine rnP ?_ ?_ <;> (intro hq; try (have hq' := hq; simp only [hqs] at hq')))
        | refine rkJ ?_
        | refine rkSB ?_
        | refine rkF ?_
        | refine rkU ?_
        | ((fail_if_success (refine rkKn ?_)); refine rkP ?_ ?_ <;> (intro hq; try (have hq' := hq; simp only [hqs] at hq')))
        | refine stp ?_
        | refine aws_draws [] mixed (by kernel_rfl) ?_
        | refine ifT ?_
        | refine ifF ?_
        | (refine ifQ ?_ ?_ <;> (try (intro hn)))
        | (refine ifB ?_ ?_ <;> (intro hq; try (have hq' := hq; simp only [hqs] at hq'))))
    exact rt1 rfl rfl finS_p rfl
  · have d1 : decide (t.1 ≤ t.2) = false := decide_eq_false h1
    rw [if_neg h1]
    repeat' (first
        | refine rnJ ?_
        | refine rnSB ?_
        | refine rnG ?_
        | refine rnU ?_
        | ((fail_if_success (refine rnKn ?_)); refine rnP ?_ ?_ <;> (intro hq; try (have hq' := hq; simp only [hqs] at hq')))
        | refine rkJ ?_
        | refine rkSB ?_
        | refine rkF ?_
        | refine rkU ?_
        | ((fail_if_success (refine rkKn ?_)); refine rkP ?_ ?_ <;> (intro hq; try (have hq' := hq; simp only [hqs] at hq')))
        | refine stp ?_
        | refine aws_draws [] mixed (by kernel_rfl) ?_
        | refine ifT ?_
        | refine ifF ?_
        | (refine ifQ ?_ ?_ <;> (try (intro hn)))
        | (refine ifB ?_ ?_ <;> (intro hq; try (have hq' := hq; simp only [hqs] at hq'))))
    exact rt1 rfl rfl finS_p rfl
instance {t : Int × Int} : PC Try.prog 40 [tV t] (0 ≤ t.1 ∧ 0 ≤ t.2 ∧ t.1 < 18446744073709551616) (.p (.k .u64 (valF t))) := ⟨value_w t⟩
end Go.Proofs.Ytacofbbclmbbeaa.Ca
