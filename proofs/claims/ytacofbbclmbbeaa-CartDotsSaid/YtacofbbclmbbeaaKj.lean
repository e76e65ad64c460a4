/- THE ABSTRACT WALK, part 30: structs in slices. Nothing here speaks of a program. -/
import Derived.Test.YtacofbbclmbbeaaKi
namespace Go.Aw
open Go Go.RowKit
set_option linter.unusedVariables false
set_option linter.unusedSimpArgs false
section ops
variable {C : Ctx} {o : Oper} {σ : St}
/-- a struct in a slice that stays, whole -/
theorem lop_ld_at2 {T : TypeId} {x : Operand} {k : TK} {sz by_ : Nat} {p0 p1 : PVal} (ho : o.op = .load T x) (hT : TI C.P T k sz by_) (hx : σ.look x = .p (.at_ [p0, p1])) (hk : k.agg = true) (hs : sz = 2) (hd : dOk C o.dst = true) : LOp C o σ ⟨.a [.p p0, .p p1], []⟩ (fun _ => false) := by
  subst hs; exact lop_load_at (o := o) ho hx hk (by omega) (by simp) hd
theorem lop_ld_at3 {T : TypeId} {x : Operand} {k : TK} {sz by_ : Nat} {p0 p1 p2 : PVal} (ho : o.op = .load T x) (hT : TI C.P T k sz by_) (hx : σ.look x = .p (.at_ [p0, p1, p2])) (hk : k.agg = true) (hs : sz = 3) (hd : dOk C o.dst = true) : LOp C o σ ⟨.a [.p p0, .p p1, .p p2], []⟩ (fun _ => false) := by
  subst hs; exact lop_load_at (o := o) ho hx hk (by omega) (by simp) hd
theorem lop_ld_at4 {T : TypeId} {x : Operand} {k : TK} {sz by_ : Nat} {p0 p1 p2 p3 : PVal} (ho : o.op = .load T x) (hT : TI C.P T k sz by_) (hx : σ.look x = .p (.at_ [p0, p1, p2, p3])) (hk : k.agg = true) (hs : sz = 4) (hd : dOk C o.dst = true) : LOp C o σ ⟨.a [.p p0, .p p1, .p p2, .p p3], []⟩ (fun _ => false) := by
  subst hs; exact lop_load_at (o := o) ho hx hk (by omega) (by simp) hd
end ops
theorem lopJ {C : Ctx} {o : Oper} {σ : St} {e : Eff} {ro : Nat → Bool} (h : LOp C o σ e ro := by
    first
      | (apply gLoad; (focus rfl); first
          | (apply lop_ld_at2; (focus rfl); (focus exact inferInstance); (focus rfl); (focus rfl); (focus rfl); (focus rfl))
          | (apply lop_ld_at4; (focus rfl); (focus exact inferInstance); (focus rfl); (focus rfl); (focus rfl); (focus rfl))
          | (apply lop_ld_at3; (focus rfl); (focus exact inferInstance); (focus rfl); (focus rfl); (focus rfl); (focus rfl)))
      | exact lopB
      | fail) : LOp C o σ e ro := h
section steps
variable {C : Ctx} {ops : Array Oper} {o : Oper} {rest : List Oper} {K : St → Prop} {σ : St} {e : Eff} {ro : Nat → Bool} {W : List (Nat × Nat)} {i : Nat}
theorem rnJ {d : Nat} (hk : RunN C ops rest K (e.app (some d) σ)) (hg : Guard ops σ o true := by first | exact gd_n rfl rfl | exact gd_t rfl rfl rfl rfl | exact gd_t rfl rfl rfl (by assumption)) (hd : o.dst = some d := by rfl) (h : LOp C o σ e ro := by exact lopJ) : RunN C ops (o :: rest) K σ := rn_any hg hd h hk
theorem rkJ {d : Nat} (hk : RunK C ops W (i + 1) rest K (e.app (some d) σ)) (hg : Guard ops σ o true := by first | exact gd_n rfl rfl | exact gd_t rfl rfl rfl rfl | exact gd_t rfl rfl rfl (by assumption)) (hd' : o.dst = some d := by rfl) (hd : dOk C o.dst = true := by rfl) (h : LOp C o σ e ro := by exact lopJ)
    (hro : ∀ x, ro x = true → okObj ops W i x = true := by first | exact fun _ => ro_none | exact ro_one rfl | exact ro_one (by kernel_rfl) | exact ro_kIn (by decide)) (hob : ∀ p ∈ e.obj, (i, p.1) ∈ W := by first | exact ob_none | exact ob_one (by decide) | decide) : RunK C ops W i (o :: rest) K σ := rk_wr hg hd' hd h hro hob hk
end steps
end Go.Aw
