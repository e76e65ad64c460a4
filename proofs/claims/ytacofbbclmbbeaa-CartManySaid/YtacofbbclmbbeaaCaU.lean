/- carts: a number's tally -/
import Derived.Test.YtacofbbclmbbeaaCaT
namespace Go.Proofs.Ytacofbbclmbbeaa.Ca
open Go Go.RowKit Go.Aw Go.Aw.Cart
set_option linter.unusedVariables false
set_option linter.unusedSimpArgs false
set_option maxRecDepth 8000
set_option maxHeartbeats 4000000
theorem lop_neg2 {C : Ctx} {o : Oper} {σ : St} {t : TypeId} {x : Operand} {k : IntKind} {n : Int} (ho : o.op = .unOp .neg t x) (hx : σ.look x = .p (.v (.int k n))) (hd : dOk C o.dst = true) (hw : k.wrap (0 - n) = 0 - n) : LOp C o σ ⟨.p (.v (.int k (0 - n))), []⟩ (fun _ => false) := by
  have := lop_neg ho hx hd
  rwa [hw] at this
namespace CU
theorem lopC {C : Ctx} {o : Oper} {σ : St} {e : Eff} {ro : Nat → Bool} (h : LOp C o σ e ro := by
    first
      | exact lop_neg2 rfl rfl rfl (IntWalk.i64_in _ (by omega))
      | exact lopJ
      | fail) : LOp C o σ e ro := h
section steps
variable {C : Ctx} {ops : Array Oper} {o : Oper} {rest : List Oper} {K : St → Prop} {σ : St} {e : Eff} {ro : Nat → Bool} {W : List (Nat × Nat)} {i : Nat}
theorem rnC {d : Nat} (hk : RunN C ops rest K (e.app (some d) σ)) (hg : Guard ops σ o true := by first | exact gd_n rfl rfl | exact gd_t rfl rfl rfl rfl | exact gd_t rfl rfl rfl (by assumption)) (hd : o.dst = some d := by rfl) (h : LOp C o σ e ro := by exact lopC) : RunN C ops (o :: rest) K σ := rn_any hg hd h hk
end steps
end CU
open CU
def ofT (n : Int) : Int × Int := if n < 0 then (0, 0 - (n + 1) + 1) else (n, 0)
theorem of_t (n : Int) (h : -9223372036854775808 ≤ n ∧ n ≤ 9223372036854775807) : PCall Try.prog 73 [.p (.i n)] (tV (ofT n)) := by
  refine pcall_of Try.func73 rfl (fun w0 F S0 M0 => ?_)
  unfold ofT
  by_cases h0 : n < 0
  · have d1 : decide (n < 0) = true := decide_eq_true h0
    rw [if_pos h0]
    repeat' (first
        | refine rnC ?_
        | refine rnSB ?_
        | refine rnG ?_
        | refine rnU ?_
        | ((fail_if_success (refine rnKn ?_)); refine rnP ?_ ?_ <;> (intro hq; try (have hq' := hq; simp only [hqs] at hq')))
        | refine rkC ?_
        | refine rkSB ?_
        | refine rkF ?_
        | refine rkU ?_
        | ((fail_if_success (refine rkKn ?_)); refine rkP ?_ ?_ <;> (intro hq; try (have hq' := hq; simp only [hqs] at hq')))
        | refine stp ?_
        | refine ifT ?_
        | refine ifF ?_
        | (refine ifQ ?_ ?_ <;> (try (intro hn)))
        | (refine ifB ?_ ?_ <;> (intro hq; try (have hq' := hq; simp only [hqs] at hq'))))
    exact rc1 rfl rfl rfl rfl rfl rfl finL_p rfl
  · have d1 : decide (n < 0) = false := decide_eq_false h0
    rw [if_neg h0]
    repeat' (first
        | refine rnC ?_
        | refine rnSB ?_
        | refine rnG ?_
        | refine rnU ?_
        | ((fail_if_success (refine rnKn ?_)); refine rnP ?_ ?_ <;> (intro hq; try (have hq' := hq; simp only [hqs] at hq')))
        | refine rkC ?_
        | refine rkSB ?_
        | refine rkF ?_
        | refine rkU ?_
        | ((fail_if_success (refine rkKn ?_)); refine rkP ?_ ?_ <;> (intro hq; try (have hq' := hq; simp only [hqs] at hq')))
        | refine stp ?_
        | refine ifT ?_
        | refine ifF ?_
        | (refine ifQ ?_ ?_ <;> (try (intro hn)))
        | (refine ifB ?_ ?_ <;> (intro hq; try (have hq' := hq; simp only [hqs] at hq'))))
    exact rc1 rfl rfl rfl rfl rfl rfl finL_p rfl
instance {n : Int} : PC Try.prog 73 [.p (.i n)] (-9223372036854775808 ≤ n ∧ n ≤ 9223372036854775807) (tV (ofT n)) := ⟨of_t n⟩
end Go.Proofs.Ytacofbbclmbbeaa.Ca
