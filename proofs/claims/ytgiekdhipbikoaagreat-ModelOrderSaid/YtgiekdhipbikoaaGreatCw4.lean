/- wire: readers of bytes, a writer's bytes; small numbers -/
import Derived.Test.YtgiekdhipbikoaaGreatCw3
import Derived.Test.YtgiekdhipbikoaaGreatKg
namespace Go.Proofs.YtgiekdhipbikoaaGreat.Wi
open Go Go.RowKit Go.Aw
set_option linter.unusedVariables false
set_option linter.unusedSimpArgs false
set_option maxRecDepth 8000
set_option maxHeartbeats 4000000
theorem lop_max_l {C : Ctx} {o : Oper} {σ : St} {x y : Operand} {T1 T2 : TypeId} {k : IntKind} {m n : Int} (ho : o.op = .call ⟨.builtin .max, #[x, y], #[T1, T2]⟩) (hx : σ.look x = .p (.v (.int k m))) (hy : σ.look y = .p (.v (.int k n))) (h : n ≤ m) (hd : dOk C o.dst = true) : LOp C o σ ⟨.p (.v (.int k m)), []⟩ (fun _ => false) := by
  have := lop_max ho hx hy hd
  rwa [if_neg (by omega)] at this
theorem lop_max_r {C : Ctx} {o : Oper} {σ : St} {x y : Operand} {T1 T2 : TypeId} {k : IntKind} {m n : Int} (ho : o.op = .call ⟨.builtin .max, #[x, y], #[T1, T2]⟩) (hx : σ.look x = .p (.v (.int k m))) (hy : σ.look y = .p (.v (.int k n))) (h : m < n) (hd : dOk C o.dst = true) : LOp C o σ ⟨.p (.v (.int k n)), []⟩ (fun _ => false) := by
  have := lop_max ho hx hy hd
  rwa [if_pos (by omega)] at this
namespace W4
theorem lopC {C : Ctx} {o : Oper} {σ : St} {e : Eff} {ro : Nat → Bool} (h : LOp C o σ e ro := by
    first
      | (apply lop_max_l; (focus rfl); (focus rfl); (focus rfl); (focus omega); (focus rfl))
      | (apply lop_max_r; (focus rfl); (focus rfl); (focus rfl); (focus omega); (focus rfl))
      | (apply lop_osl_eqnil; (focus rfl); (focus exact inferInstance); (focus rfl); (focus exact ⟨_, _, _, rfl, rfl⟩); (focus rfl); (focus rfl))
      | (apply lop_ap_exo; (focus rfl); (focus exact inferInstance); (focus exact inferInstance); (focus exact inferInstance); (focus rfl); (focus rfl); (focus rfl); (focus rfl); (focus rfl); (focus rfl); (focus first | (simp only [maxLen, List.length_append, List.length_cons, List.length_nil, List.length_take, List.length_drop, List.length_map]; omega) | omega); (focus first | (simp only [maxLen, List.length_append, List.length_cons, List.length_nil, List.length_take, List.length_drop, List.length_map]; omega) | omega); (focus rfl))
      | exact W2.lopC
      | fail) : LOp C o σ e ro := h
section steps
variable {C : Ctx} {ops : Array Oper} {o : Oper} {rest : List Oper} {K : St → Prop} {σ : St} {e : Eff} {ro : Nat → Bool} {W : List (Nat × Nat)} {i : Nat}
theorem rnC {d : Nat} (hk : RunN C ops rest K (e.app (some d) σ)) (hg : Guard ops σ o true := by first | exact gd_n rfl rfl | exact gd_t rfl rfl rfl rfl | exact gd_t rfl rfl rfl (by assumption)) (hd : o.dst = some d := by rfl) (h : LOp C o σ e ro := by exact lopC) : RunN C ops (o :: rest) K σ := rn_any hg hd h hk
theorem rkC {d : Nat} (hk : RunK C ops W (i + 1) rest K (e.app (some d) σ)) (hg : Guard ops σ o true := by first | exact gd_n rfl rfl | exact gd_t rfl rfl rfl rfl | exact gd_t rfl rfl rfl (by assumption)) (hd' : o.dst = some d := by rfl) (hd : dOk C o.dst = true := by rfl) (h : LOp C o σ e ro := by exact lopC)
    (hro : ∀ x, ro x = true → okObj ops W i x = true := by first | exact fun _ => ro_none | exact ro_one rfl | exact ro_k1 rfl | exact ro_one (by kernel_rfl) | exact ro_k1 (by kernel_rfl) | exact ro_kIn (by decide)) (hob : ∀ p ∈ e.obj, (i, p.1) ∈ W := by first | exact ob_none | exact ob_one (by decide) | decide) : RunK C ops W i (o :: rest) K σ := rk_wr hg hd' hd h hro hob hk
end steps
end W4
open W4
end Go.Proofs.YtgiekdhipbikoaaGreat.Wi
