/- Chapter 25 (draw): what its functions do. -/
import Derived.Test.YtbhcdkhejgkhaaaKd
import Derived.Test.YtbhcdkhejgkhaaaTy
namespace Go.Proofs.Ytbhcdkhejgkhaaa.Dr
open Go Go.RowKit Go.Aw
set_option linter.unusedVariables false
set_option linter.unusedSimpArgs false
set_option maxRecDepth 4000

abbrev ints (l : List Int) (ex : Bool) : AV := .p (.sl 1 (l.map fun n => [PVal.i n]) ex)
abbrev u64s (l : List Int) (ex : Bool) : AV := .p (.sl 1 (l.map fun n => [PVal.k .u64 n]) ex)

theorem mod_in (d : Int) (n : Nat) : (n : Int) = 0 ∨ 0 ≤ d % (n : Int) ∧ d % (n : Int) < n := by
  rcases Nat.eq_zero_or_pos n with h | h
  · exact .inl (by omega)
  · exact .inr ⟨Int.emod_nonneg _ (by omega), Int.emod_lt_of_pos _ (by omega)⟩
theorem place_c (n d : Int) (h : 1 ≤ n ∧ n ≤ 9223372036854775807 ∧ 0 ≤ d ∧ d < 18446744073709551616) : PCall Try.prog 62 [.p (.i n), .p (.k .u64 d)] (.p (.i (d % n))) := by
  refine pcall_of Try.func62 rfl (fun w0 F S0 M0 => ?_)
  have h1 : 0 ≤ d % n := Int.emod_nonneg _ (by omega)
  have h2 : d % n < n := Int.emod_lt_of_pos _ (by omega)
  repeat' (first
      | refine rnA ?_
      | refine rnS ?_
      | refine rnG ?_
      | refine rnU ?_
      | ((fail_if_success (refine rnKn ?_)); refine rnP ?_ ?_ <;> (intro hq; try (have hq' := hq; simp only [hqs] at hq')))
      | refine rkA ?_
      | refine rkS ?_
      | refine rkF ?_
      | refine rkU ?_
      | ((fail_if_success (refine rkKn ?_)); refine rkP ?_ ?_ <;> (intro hq; try (have hq' := hq; simp only [hqs] at hq')))
      | refine stp ?_
      | refine aws_draws [] mixed (by kernel_rfl) ?_
      | refine ifT ?_
      | refine ifF ?_
      | (refine ifQ ?_ ?_ <;> (try (intro hn)))
      | (refine ifB ?_ ?_ <;> (intro hq; try (have hq' := hq; simp only [hqs] at hq'))))
  all_goals exact rt1 rfl rfl finS_p rfl
instance {n d : Int} : PC Try.prog 62 [.p (.i n), .p (.k .u64 d)] (1 ≤ n ∧ n ≤ 9223372036854775807 ∧ 0 ≤ d ∧ d < 18446744073709551616) (.p (.i (d % n))) := ⟨place_c n d⟩
theorem rplace_c (n d : Int) (h : 1 ≤ n ∧ n ≤ 9223372036854775807 ∧ 0 ≤ d ∧ d < 18446744073709551616) : PCall Try.prog 34 [.p (.i n), .p (.k .u64 d)] (.p (.i (d % n))) := by
  refine pcall_of Try.func34 rfl (fun w0 F S0 M0 => ?_)
  have h1 : 0 ≤ d % n := Int.emod_nonneg _ (by omega)
  have h2 : d % n < n := Int.emod_lt_of_pos _ (by omega)
  repeat' (first
      | refine rnA ?_
      | refine rnS ?_
      | refine rnG ?_
      | refine rnU ?_
      | ((fail_if_success (refine rnKn ?_)); refine rnP ?_ ?_ <;> (intro hq; try (have hq' := hq; simp only [hqs] at hq')))
      | refine rkA ?_
      | refine rkS ?_
      | refine rkF ?_
      | refine rkU ?_
      | ((fail_if_success (refine rkKn ?_)); refine rkP ?_ ?_ <;> (intro hq; try (have hq' := hq; simp only [hqs] at hq')))
      | refine stp ?_
      | refine aws_draws [] mixed (by kernel_rfl) ?_
      | refine ifT ?_
      | refine ifF ?_
      | (refine ifQ ?_ ?_ <;> (try (intro hn)))
      | (refine ifB ?_ ?_ <;> (intro hq; try (have hq' := hq; simp only [hqs] at hq'))))
  all_goals exact rt1 rfl rfl finS_p rfl
instance {n d : Int} : PC Try.prog 34 [.p (.i n), .p (.k .u64 d)] (1 ≤ n ∧ n ≤ 9223372036854775807 ∧ 0 ≤ d ∧ d < 18446744073709551616) (.p (.i (d % n))) := ⟨rplace_c n d⟩

/-- what Pick answers -/
def pickR (l : List Int) (d : Int) : Int × Int := if l.length = 0 then (0, 4) else (l.getD (d % l.length).toNat default, 0)
theorem pick_c (l : List Int) (ex : Bool) (d : Int) (h : l.length ≤ 9223372036854775807 ∧ 0 ≤ d ∧ d < 18446744073709551616) : PCall Try.prog 33 [ints l ex, .p (.k .u64 d)] (.tup [.one (.p (.i (pickR l d).1)), .one (.p (.i (pickR l d).2))]) := by
  refine pcall_of Try.func33 rfl (fun w0 F S0 M0 => ?_)
  have key := mod_in d l.length
  repeat' (first
      | refine rnA ?_
      | refine rnS ?_
      | refine rnG ?_
      | refine rnU ?_
      | ((fail_if_success (refine rnKn ?_)); refine rnP ?_ ?_ <;> (intro hq; try (have hq' := hq; simp only [hqs] at hq')))
      | refine rkA ?_
      | refine rkS ?_
      | refine rkF ?_
      | refine rkU ?_
      | ((fail_if_success (refine rkKn ?_)); refine rkP ?_ ?_ <;> (intro hq; try (have hq' := hq; simp only [hqs] at hq')))
      | refine stp ?_
      | refine aws_draws [] mixed (by kernel_rfl) ?_
      | refine ifT ?_
      | refine ifF ?_
      | (refine ifQ ?_ ?_ <;> (try (intro hn)))
      | (refine ifB ?_ ?_ <;> (intro hq; try (have hq' := hq; simp only [hqs] at hq'))))
  all_goals refine rt2 rfl rfl finS_p rfl finS_p ?_
  all_goals simp_all [pickR]
instance {l : List Int} {ex : Bool} {d : Int} : PC Try.prog 33 [ints l ex, .p (.k .u64 d)] (l.length ≤ 9223372036854775807 ∧ 0 ≤ d ∧ d < 18446744073709551616) (.tup [.one (.p (.i (pickR l d).1)), .one (.p (.i (pickR l d).2))]) := ⟨pick_c l ex d⟩

def u64ok (l : List Int) : Prop := ∀ d ∈ l, 0 ≤ d ∧ d < 18446744073709551616
instance {l : List Int} : Decidable (u64ok l) := inferInstanceAs (Decidable (∀ d ∈ l, 0 ≤ d ∧ d < 18446744073709551616))
theorem u64ok.getD {l : List Int} (h : u64ok l) (i : Nat) : 0 ≤ l.getD i default ∧ l.getD i default < 18446744073709551616 := by
  rw [List.getD_eq_getElem?_getD]
  cases hx : l[i]? with
  | none => exact ⟨Int.le_refl _, by decide⟩
  | some x => exact h x (List.mem_of_getElem? hx)
theorem eq_of_getD {l m : List Int} (h : l.length = m.length) (k : ∀ j, j < l.length → l.getD j default = m.getD j default) : l = m := by
  apply List.ext_getElem h
  intro j h1 h2
  have := k j h1
  simpa [List.getD_eq_getElem?_getD, h1, h2] using this
theorem same_c (l m : List Int) (ex ey : Bool) (h : l.length ≤ 9223372036854775806 ∧ m.length ≤ 9223372036854775806) : PCall Try.prog 29 [ints l ex, ints m ey] (.p (.b (decide (l = m)))) := by
  refine pcall_of Try.func29 rfl (fun w0 F S0 M0 => ?_)
  repeat' (first
      | refine rnA ?_
      | refine rnS ?_
      | refine rnG ?_
      | refine rnU ?_
      | ((fail_if_success (refine rnKn ?_)); refine rnP ?_ ?_ <;> (intro hq; try (have hq' := hq; simp only [hqs] at hq')))
      | refine rkA ?_
      | refine rkS ?_
      | refine rkF ?_
      | refine rkU ?_
      | ((fail_if_success (refine rkKn ?_)); refine rkP ?_ ?_ <;> (intro hq; try (have hq' := hq; simp only [hqs] at hq')))
      | refine stp ?_
      | refine aws_draws [] mixed (by kernel_rfl) ?_
      | refine ifT ?_
      | refine ifF ?_
      | (refine ifQ ?_ ?_ <;> (try (intro hn)))
      | (refine ifB ?_ ?_ <;> (intro hq; try (have hq' := hq; simp only [hqs] at hq'))))
  · refine rt1 rfl rfl finS_p (rb ?_)
    have : l ≠ m := fun e => by subst e; simp at hq'
    simp [this]
  · have hl : l.length = m.length := by omega
    refine aws_loopF [4, 5, 11, 12, 13, 14, 15, 16, 17, 18, 19, 20, 21, 22, 23, 24, 25] [] (fun i : Nat => [(5, .p (.i i))]) (fun _ => []) (fun i => i ≤ l.length ∧ ∀ j, j < i → l.getD j default = m.getD j default) (fun i => l.length - i) 0 ⟨Nat.zero_le _, fun j hj => absurd hj (Nat.not_lt_zero _)⟩ (by exact knA) (by exact knA) ?_
    rintro i β γ ⟨hi, hpre⟩
    repeat' (first
        | refine rnA ?_
        | refine rnS ?_
        | refine rnG ?_
        | refine rnU ?_
        | ((fail_if_success (refine rnKn ?_)); refine rnP ?_ ?_ <;> (intro hq; try (have hq' := hq; simp only [hqs] at hq')))
        | refine rkA ?_
        | refine rkS ?_
        | refine rkF ?_
        | refine rkU ?_
        | ((fail_if_success (refine rkKn ?_)); refine rkP ?_ ?_ <;> (intro hq; try (have hq' := hq; simp only [hqs] at hq')))
        | refine stp ?_
        | refine aws_draws [] mixed (by kernel_rfl) ?_
        | refine ifT ?_
        | refine ifF ?_
        | (refine ifQ ?_ ?_ <;> (try (intro hn)))
        | (refine ifB ?_ ?_ <;> (intro hq; try (have hq' := hq; simp only [hqs] at hq'))))
    · refine rt1 rfl rfl finS_p (rb ?_)
      have : l ≠ m := fun e => by subst e; exact hq' rfl
      simp [this]
    · refine ⟨i + 1, by omega, ⟨by omega, fun j hj => ?_⟩, ?_⟩
      · rcases Nat.lt_or_ge j i with h1 | h1
        · exact hpre j h1
        · obtain rfl : j = i := by omega
          simpa using hq'
      · exact frA
    · refine rt1 rfl rfl finS_p (rb ?_)
      have : l = m := eq_of_getD hl fun j hj => hpre j (by omega)
      simp [this]
instance {l m : List Int} {ex ey : Bool} : PC Try.prog 29 [ints l ex, ints m ey] (l.length ≤ 9223372036854775806 ∧ m.length ≤ 9223372036854775806) (.p (.b (decide (l = m)))) := ⟨same_c l m ex ey⟩
end Go.Proofs.Ytbhcdkhejgkhaaa.Dr
