/- carts: tallies // carts: a number's tally -/
import Derived.Test.YtpmobjnaiaogbaaGreatCa1
import Derived.Test.YtpmobjnaiaogbaaGreatKj
namespace Go.Proofs.YtpmobjnaiaogbaaGreat.Ca
open Go Go.RowKit Go.Aw Go.Aw.Cart
set_option linter.unusedVariables false
set_option linter.unusedSimpArgs false
set_option maxRecDepth 8000
set_option maxHeartbeats 4000000
def mnF (a : Int) : Int := if 4611686018427387904 < a then 4611686018427387904 else a
def moreF (a b : Int) : Int := mnF (mnF a + mnF b)
theorem mnF_in {a : Int} (h : 0 ≤ a) : 0 ≤ mnF a ∧ mnF a ≤ 4611686018427387904 := by unfold mnF; split <;> omega
abbrev tL (t : Int × Int) : List AC := [.p (.k .u64 t.1), .p (.k .u64 t.2)]
abbrev tV (t : Int × Int) : AV := .a (tL t)
theorem more_w (a b : Int) (h : 0 ≤ a ∧ 0 ≤ b) : PCall Tryz.prog 93 [.p (.k .u64 a), .p (.k .u64 b)] (.p (.k .u64 (moreF a b))) := by
  refine pcall_of Tryz.func93 rfl (fun w0 F S0 M0 => ?_)
  have h1 := mnF_in h.1
  have h2 := mnF_in h.2
  unfold mnF at h1 h2
  repeat' (first
      | refine rnJ ?_
      | refine rnSB ?_
      | refine rnG ?_
      | refine rnU ?_
      | ((fail_if_success (refine rnKn ?_)); refine rnP ?_ ?_ <;> (intro hq; try (have hq' := hq; simp only [hqs] at hq')))
      | refine rkJ ?_
      | refine rkSB ?_
      | refine rkF ?_
      | refine rkU ?_
      | ((fail_if_success (refine rkKn ?_)); refine rkP ?_ ?_ <;> (intro hq; try (have hq' := hq; simp only [hqs] at hq')))
      | refine stp ?_
      | refine aws_draws [] mixed (by kernel_rfl) ?_
      | refine ifT ?_
      | refine ifF ?_
      | (refine ifQ ?_ ?_ <;> (try (intro hn)))
      | (refine ifB ?_ ?_ <;> (intro hq; try (have hq' := hq; simp only [hqs] at hq'))))
  exact rt1 rfl rfl finS_p rfl
instance {a b : Int} : PC Tryz.prog 93 [.p (.k .u64 a), .p (.k .u64 b)] (0 ≤ a ∧ 0 ≤ b) (.p (.k .u64 (moreF a b))) := ⟨more_w a b⟩
def plusF (a b : Int × Int) : Int × Int := (moreF a.1 b.1, moreF a.2 b.2)
theorem plus_w (a b : Int × Int) (h : 0 ≤ a.1 ∧ 0 ≤ b.1 ∧ 0 ≤ a.2 ∧ 0 ≤ b.2) : PCall Tryz.prog 70 [tV a, tV b] (tV (plusF a b)) := by
  refine pcall_of Tryz.func70 rfl (fun w0 F S0 M0 => ?_)
  obtain ⟨h1, h2, h3, h4⟩ := h
  repeat' (first
      | refine rnJ ?_
      | refine rnSB ?_
      | refine rnG ?_
      | refine rnU ?_
      | ((fail_if_success (refine rnKn ?_)); refine rnP ?_ ?_ <;> (intro hq; try (have hq' := hq; simp only [hqs] at hq')))
      | refine rkJ ?_
      | refine rkSB ?_
      | refine rkF ?_
      | refine rkU ?_
      | ((fail_if_success (refine rkKn ?_)); refine rkP ?_ ?_ <;> (intro hq; try (have hq' := hq; simp only [hqs] at hq')))
      | refine stp ?_
      | refine ifT ?_
      | refine ifF ?_
      | (refine ifQ ?_ ?_ <;> (try (intro hn)))
      | (refine ifB ?_ ?_ <;> (intro hq; try (have hq' := hq; simp only [hqs] at hq'))))
  refine aws_draws [(11, 4)] mixed (by kernel_rfl) ?_
  repeat' (first
      | refine rk_nil ?_
      | refine rkJ ?_
      | refine rkSB ?_
      | refine rkF ?_
      | refine rkU ?_
      | ((fail_if_success (refine rkKn ?_)); refine rkP ?_ ?_ <;> (intro hq; try (have hq' := hq; simp only [hqs] at hq'))))
  repeat' (first
      | refine rnJ ?_
      | refine rnSB ?_
      | refine rnG ?_
      | refine rnU ?_
      | ((fail_if_success (refine rnKn ?_)); refine rnP ?_ ?_ <;> (intro hq; try (have hq' := hq; simp only [hqs] at hq')))
      | refine rkJ ?_
      | refine rkSB ?_
      | refine rkF ?_
      | refine rkU ?_
      | ((fail_if_success (refine rkKn ?_)); refine rkP ?_ ?_ <;> (intro hq; try (have hq' := hq; simp only [hqs] at hq')))
      | refine stp ?_
      | refine ifT ?_
      | refine ifF ?_
      | (refine ifQ ?_ ?_ <;> (try (intro hn)))
      | (refine ifB ?_ ?_ <;> (intro hq; try (have hq' := hq; simp only [hqs] at hq'))))
  exact rc1 rfl rfl rfl rfl rfl rfl finL_p rfl
instance {a b : Int × Int} : PC Tryz.prog 70 [tV a, tV b] (0 ≤ a.1 ∧ 0 ≤ b.1 ∧ 0 ≤ a.2 ∧ 0 ≤ b.2) (tV (plusF a b)) := ⟨plus_w a b⟩
def valF (t : Int × Int) : Int := if t.1 ≤ t.2 then 0 else t.1 - t.2
theorem value_w (t : Int × Int) (h : 0 ≤ t.1 ∧ 0 ≤ t.2 ∧ t.1 < 18446744073709551616) : PCall Tryz.prog 43 [tV t] (.p (.k .u64 (valF t))) := by
  refine pcall_of Tryz.func43 rfl (fun w0 F S0 M0 => ?_)
  unfold valF
  by_cases h1 : t.1 ≤ t.2
  · have d1 : decide (t.1 ≤ t.2) = true := decide_eq_true h1
    rw [if_pos h1]
    repeat' (first
        | refine rnJ ?_
        | refine rnSB ?_
        | refine rnG ?_
        | refine rnU ?_
        | ((fail_if_success (refine rnKn ?_)); refine rnP ?_ ?_ <;> (intro hq; try (have hq' := hq; simp only [hqs] at hq')))
        | refine rkJ ?_
        | refine rkSB ?_
        | refine rkF ?_
        | refine rkU ?_
        | ((fail_if_success (refine rkKn ?_)); refine rkP ?_ ?_ <;> (intro hq; try (have hq' := hq; simp only [hqs] at hq')))
        | refine stp ?_
        | refine aws_draws [] mixed (by kernel_rfl) ?_
        | refine ifT ?_
        | refine ifF ?_
        | (refine ifQ ?_ ?_ <;> (try (intro hn)))
        | (refine ifB ?_ ?_ <;> (intro hq; try (have hq' := hq; simp only [hqs] at hq'))))
    exact rt1 rfl rfl finS_p rfl
  · have d1 : decide (t.1 ≤ t.2) = false := decide_eq_false h1
    rw [if_neg h1]
    repeat' (first
        | refine rnJ ?_
        | refine rnSB ?_
        | refine rnG ?_
        | refine rnU ?_
        | ((fail_if_success (refine rnKn ?_)); refine rnP ?_ ?_ <;> (intro hq; try (have hq' := hq; simp only [hqs] at hq')))
        | refine rkJ ?_
        | refine rkSB ?_
        | refine rkF ?_
        | refine rkU ?_
        | ((fail_if_success (refine rkKn ?_)); refine rkP ?_ ?_ <;> (intro hq; try (have hq' := hq; simp only [hqs] at hq')))
        | refine stp ?_
        | refine aws_draws [] mixed (by kernel_rfl) ?_
        | refine ifT ?_
        | refine ifF ?_
        | (refine ifQ ?_ ?_ <;> (try (intro hn)))
        | (refine ifB ?_ ?_ <;> (intro hq; try (have hq' := hq; simp only [hqs] at hq'))))
    exact rt1 rfl rfl finS_p rfl
instance {t : Int × Int} : PC Tryz.prog 43 [tV t] (0 ≤ t.1 ∧ 0 ≤ t.2 ∧ t.1 < 18446744073709551616) (.p (.k .u64 (valF t))) := ⟨value_w t⟩
end Go.Proofs.YtpmobjnaiaogbaaGreat.Ca
namespace Go.Proofs.YtpmobjnaiaogbaaGreat.Ca
open Go Go.RowKit Go.Aw Go.Aw.Cart
set_option linter.unusedVariables false
set_option linter.unusedSimpArgs false
set_option maxRecDepth 8000
set_option maxHeartbeats 4000000
theorem lop_neg2 {C : Ctx} {o : Oper} {σ : St} {t : TypeId} {x : Operand} {k : IntKind} {n : Int} (ho : o.op = .unOp .neg t x) (hx : σ.look x = .p (.v (.int k n))) (hd : dOk C o.dst = true) (hw : k.wrap (0 - n) = 0 - n) : LOp C o σ ⟨.p (.v (.int k (0 - n))), []⟩ (fun _ => false) := by
  have := lop_neg ho hx hd
  rwa [hw] at this
namespace CU
theorem lopC {C : Ctx} {o : Oper} {σ : St} {e : Eff} {ro : Nat → Bool} (h : LOp C o σ e ro := by
    first
      | exact lop_neg2 rfl rfl rfl (IntWalk.i64_in _ (by omega))
      | exact lopJ
      | fail) : LOp C o σ e ro := h
section steps
variable {C : Ctx} {ops : Array Oper} {o : Oper} {rest : List Oper} {K : St → Prop} {σ : St} {e : Eff} {ro : Nat → Bool} {W : List (Nat × Nat)} {i : Nat}
theorem rnC {d : Nat} (hk : RunN C ops rest K (e.app (some d) σ)) (hg : Guard ops σ o true := by first | exact gd_n rfl rfl | exact gd_t rfl rfl rfl rfl | exact gd_t rfl rfl rfl (by assumption)) (hd : o.dst = some d := by rfl) (h : LOp C o σ e ro := by exact lopC) : RunN C ops (o :: rest) K σ := rn_any hg hd h hk
end steps
end CU
open CU
def ofT (n : Int) : Int × Int := if n < 0 then (0, 0 - (n + 1) + 1) else (n, 0)
theorem of_t (n : Int) (h : -9223372036854775808 ≤ n ∧ n ≤ 9223372036854775807) : PCall Tryz.prog 71 [.p (.i n)] (tV (ofT n)) := by
  refine pcall_of Tryz.func71 rfl (fun w0 F S0 M0 => ?_)
  unfold ofT
  by_cases h0 : n < 0
  · have d1 : decide (n < 0) = true := decide_eq_true h0
    rw [if_pos h0]
    repeat' (first
        | refine rnC ?_
        | refine rnSB ?_
        | refine rnG ?_
        | refine rnU ?_
        | ((fail_if_success (refine rnKn ?_)); refine rnP ?_ ?_ <;> (intro hq; try (have hq' := hq; simp only [hqs] at hq')))
        | refine rkC ?_
        | refine rkSB ?_
        | refine rkF ?_
        | refine rkU ?_
        | ((fail_if_success (refine rkKn ?_)); refine rkP ?_ ?_ <;> (intro hq; try (have hq' := hq; simp only [hqs] at hq')))
        | refine stp ?_
        | refine ifT ?_
        | refine ifF ?_
        | (refine ifQ ?_ ?_ <;> (try (intro hn)))
        | (refine ifB ?_ ?_ <;> (intro hq; try (have hq' := hq; simp only [hqs] at hq'))))
    exact rc1 rfl rfl rfl rfl rfl rfl finL_p rfl
  · have d1 : decide (n < 0) = false := decide_eq_false h0
    rw [if_neg h0]
    repeat' (first
        | refine rnC ?_
        | refine rnSB ?_
        | refine rnG ?_
        | refine rnU ?_
        | ((fail_if_success (refine rnKn ?_)); refine rnP ?_ ?_ <;> (intro hq; try (have hq' := hq; simp only [hqs] at hq')))
        | refine rkC ?_
        | refine rkSB ?_
        | refine rkF ?_
        | refine rkU ?_
        | ((fail_if_success (refine rkKn ?_)); refine rkP ?_ ?_ <;> (intro hq; try (have hq' := hq; simp only [hqs] at hq')))
        | refine stp ?_
        | refine ifT ?_
        | refine ifF ?_
        | (refine ifQ ?_ ?_ <;> (try (intro hn)))
        | (refine ifB ?_ ?_ <;> (intro hq; try (have hq' := hq; simp only [hqs] at hq'))))
    exact rc1 rfl rfl rfl rfl rfl rfl finL_p rfl
instance {n : Int} : PC Tryz.prog 71 [.p (.i n)] (-9223372036854775808 ≤ n ∧ n ≤ 9223372036854775807) (tV (ofT n)) := ⟨of_t n⟩
end Go.Proofs.YtpmobjnaiaogbaaGreat.Ca
