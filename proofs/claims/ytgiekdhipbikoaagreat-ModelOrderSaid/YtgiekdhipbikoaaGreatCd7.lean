/- dots: maundlaw04.alive -/
import Derived.Test.YtgiekdhipbikoaaGreatCd5
import Derived.Test.YtgiekdhipbikoaaGreatCd6
import Derived.Test.YtgiekdhipbikoaaGreatCaQ
import Derived.Test.YtgiekdhipbikoaaGreatCj3
namespace Go.Proofs.YtgiekdhipbikoaaGreat.Ca
open Go Go.RowKit Go.Aw Go.Aw.Cart Go.Aw.Ord Go.Sort Go.Proofs.YtgiekdhipbikoaaGreat.Wi
set_option linter.unusedVariables false
set_option linter.unusedSimpArgs false
set_option maxRecDepth 8000
set_option maxHeartbeats 4000000
theorem dof_is {l : List Dot} (h : l.length ≤ 2000) : G.dotsOf l = setF l := by
  rw [dotsOf_is, List.take_of_length_le]
  have := setF_len l
  omega
/-- a set of given dots -/
theorem set_are {l m : List Dot} (hl : l.length ≤ 2000) (hu : m.Pairwise ltD) (hm : ∀ x, x ∈ m ↔ x ∈ l ∧ dotF x = true) : G.dotsOf l = m := by
  rw [dof_is hl]
  exact up_ext ltD_ir ltD_tr (setF_up l) hu fun x => by rw [setF_mem]; exact (hm x).symm
namespace K4
def B6 : List Nat := [1, 1, 1, 1, 1, 1]
theorem up2 : ([(1, 1), (2, 3)] : List Dot).Pairwise ltD := List.pairwise_cons.2 ⟨fun x hx => by rw [List.mem_singleton.1 hx]; exact .inl (by decide), List.pairwise_singleton _ _⟩
theorem d0 : G.dotsOf [(2, 3), (1, 1), (2, 3), (0, 0)] = [(1, 1), (2, 3)] := set_are (by decide) up2 fun x => by
  obtain ⟨a, b⟩ := x
  simp only [List.mem_cons, List.not_mem_nil, or_false, Prod.mk.injEq, dotF, decide_eq_true_eq]
  omega
theorem d1 : G.dotsOf (someF [(1, 1), (2, 3)] [(2, 3)] false) = [(1, 1)] := by
  rw [show someF [(1, 1), (2, 3)] [(2, 3)] false = [(1, 1)] by decide]
  exact set_are (by decide) (List.pairwise_singleton _ _) fun x => by
    obtain ⟨a, b⟩ := x
    simp only [List.mem_cons, List.not_mem_nil, or_false, Prod.mk.injEq, dotF, decide_eq_true_eq]
    omega
theorem d2 : G.dotsOf ([(1, 1)] ++ [(1, 1), (2, 3)]) = [(1, 1), (2, 3)] := set_are (by decide) up2 fun x => by
  obtain ⟨a, b⟩ := x
  simp only [List.mem_append, List.mem_cons, List.not_mem_nil, or_false, Prod.mk.injEq, dotF, decide_eq_true_eq]
  omega
theorem d3 : G.dotsOf (someF [(1, 1)] [(1, 1), (2, 3)] true) = [(1, 1)] := by
  rw [show someF [(1, 1)] [(1, 1), (2, 3)] true = [(1, 1)] by decide]
  exact set_are (by decide) (List.pairwise_singleton _ _) fun x => by
    obtain ⟨a, b⟩ := x
    simp only [List.mem_cons, List.not_mem_nil, or_false, Prod.mk.injEq, dotF, decide_eq_true_eq]
    omega
theorem t6 : takesD (B6, 0) = ([(1, 1)], ([], 0)) := by decide
theorem p6 : ([] : List Nat) ++ dotsB [(1, 1)] = B6 := by decide
end K4
namespace D7
theorem lopC {C : Ctx} {o : Oper} {σ : St} {e : Eff} {ro : Nat → Bool} (h : LOp C o σ e ro := by
    first
      | (apply lop_bsb; (focus rfl); (focus exact inferInstance); (focus exact inferInstance); (focus exact inferInstance); (focus repeat' (first | exact All2.nil | (apply bs_cons; (focus rfl); (focus rfl); (focus rfl)))); (focus rfl); (focus decide); (focus first | decide | omega); (focus repeat' (first | exact All2.nil | (apply All2.cons; (focus rfl)))); (focus rfl))
      | exact W4.lopC
      | exact lopV
      | fail) : LOp C o σ e ro := h
section steps
variable {C : Ctx} {ops : Array Oper} {o : Oper} {rest : List Oper} {K : St → Prop} {σ : St} {e : Eff} {ro : Nat → Bool} {W : List (Nat × Nat)} {i : Nat}
theorem rnC {d : Nat} (hk : RunN C ops rest K (e.app (some d) σ)) (hg : Guard ops σ o true := by first | exact gd_n rfl rfl | exact gd_t rfl rfl rfl rfl | exact gd_t rfl rfl rfl (by assumption)) (hd : o.dst = some d := by rfl) (h : LOp C o σ e ro := by exact lopC) : RunN C ops (o :: rest) K σ := rn_any hg hd h hk
theorem rkC {d : Nat} (hk : RunK C ops W (i + 1) rest K (e.app (some d) σ)) (hg : Guard ops σ o true := by first | exact gd_n rfl rfl | exact gd_t rfl rfl rfl rfl | exact gd_t rfl rfl rfl (by assumption)) (hd' : o.dst = some d := by rfl) (hd : dOk C o.dst = true := by rfl) (h : LOp C o σ e ro := by exact lopC)
    (hro : ∀ x, ro x = true → okObj ops W i x = true := by first | exact fun _ => ro_none | exact ro_one rfl | exact ro_k1 rfl | exact ro_one (by kernel_rfl) | exact ro_k1 (by kernel_rfl) | exact ro_kIn (by decide)) (hob : ∀ p ∈ e.obj, (i, p.1) ∈ W := by first | exact ob_none | exact ob_one (by decide) | decide) : RunK C ops W i (o :: rest) K σ := rk_wr hg hd' hd h hro hob hk
end steps
end D7
open D7 K4
end Go.Proofs.YtgiekdhipbikoaaGreat.Ca
