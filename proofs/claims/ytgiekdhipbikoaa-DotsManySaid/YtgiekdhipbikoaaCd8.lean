/- dots, the laws: DotsSets, DotsWhole -/
import Derived.Test.YtgiekdhipbikoaaCd7
import Derived.Test.YtgiekdhipbikoaaCe2
namespace Go.Proofs.Ytgiekdhipbikoaa.Ca
open Go Go.RowKit Go.Aw Go.Aw.Cart Go.Aw.Ord Go.Sort
set_option linter.unusedVariables false
set_option linter.unusedSimpArgs false
set_option maxRecDepth 8000
set_option maxHeartbeats 4000000
theorem set_right {l : List Dot} (h : l.length ≤ 2000) : dRightF (G.dotsOf l) = true := by
  have := setF_len l
  rw [dof_is h]
  exact dr_of (setF_up l) (fun d hd => (setF_mem.1 hd).2) (by omega)
theorem set_has {l : List Dot} (h : l.length ≤ 2000) {d : Dot} (hd : dotF d = true) : d ∈ G.dotsOf l ↔ d ∈ l := by
  rw [dof_is h, setF_mem]
  exact ⟨fun k => k.1, fun k => ⟨k, hd⟩⟩
theorem set_swap {a b : List Dot} (h : (a ++ b).length ≤ 2000) : G.dotsOf (a ++ b) = G.dotsOf (b ++ a) := by
  rw [dof_is h, dof_is (by rw [List.length_append] at h ⊢; omega)]
  exact setF_ext fun x _ => by rw [List.mem_append, List.mem_append]; exact or_comm
theorem some_has {a b : List Dot} {has : Bool} {d : Dot} : d ∈ someF a b has ↔ d ∈ a ∧ (decide (d ∈ b) == has) = true := List.mem_filter
theorem set_parts {a : List Dot} (p : Dot → Bool) : (setF (a.filter p)).length + (setF (a.filter fun d => !p d)).length = (setF a).length := by
  have e : ∀ q : Dot → Bool, setF (a.filter q) = (setF a).filter q := fun q =>
    up_ext ltD_ir ltD_tr (setF_up _) ((setF_up a).sublist List.filter_sublist) fun x => by
      rw [setF_mem, List.mem_filter, List.mem_filter, setF_mem]
      exact ⟨fun ⟨⟨h1, h2⟩, h3⟩ => ⟨⟨h1, h3⟩, h2⟩, fun ⟨⟨h1, h3⟩, h2⟩ => ⟨⟨h1, h2⟩, h3⟩⟩
  rw [e, e]
  generalize setF a = l
  induction l with
  | nil => rfl
  | cons x l ih =>
    cases h : p x with
    | true => rw [List.filter_cons_of_pos h, List.filter_cons_of_neg (by rw [h]; simp), List.length_cons, List.length_cons]; omega
    | false => rw [List.filter_cons_of_neg (by rw [h]; simp), List.filter_cons_of_pos (by rw [h]; rfl), List.length_cons, List.length_cons]; omega
theorem set_count {a b : List Dot} (h : a.length ≤ 2000) : (G.dotsOf (someF a b true)).length + (G.dotsOf (someF a b false)).length = (G.dotsOf a).length := by
  rw [dof_is (Nat.le_trans (some_len a b true) h), dof_is (Nat.le_trans (some_len a b false) h), dof_is h, ← set_parts (a := a) (someP b true)]
  congr 3
  unfold someF
  refine List.filter_congr fun d _ => ?_
  unfold someP
  cases decide (d ∈ b) <;> rfl
namespace D8
theorem lopC {C : Ctx} {o : Oper} {σ : St} {e : Eff} {ro : Nat → Bool} (h : LOp C o σ e ro := by
    first
      | exact D7.lopC
      | (apply lop_call2; (focus rfl); (focus exact inferInstance); (focus first | exact lk_m1 rfl | exact lk_m2 rfl | exact lk_m3 rfl | exact lk_o rfl | exact lk_a2 rfl | exact lk_a3 rfl | exact lk_a4 rfl | exact lk_a1 rfl | exact lk_a5 rfl | exact lk_a6 rfl | exact lk_a7 rfl | exact lk_a8 rfl | exact lk_a rfl); (focus exact lk_v8 (by assumption) rfl); (focus exact inferInstance); (focus exact inferInstance); (focus first | exact True.intro | assumption | rfl | omega | ((repeat' (first | assumption | refine And.intro ?_ ?_ | omega | rfl)); done) | fail); (focus rfl))
      | fail) : LOp C o σ e ro := h
section steps
variable {C : Ctx} {ops : Array Oper} {o : Oper} {rest : List Oper} {K : St → Prop} {σ : St} {e : Eff} {ro : Nat → Bool} {W : List (Nat × Nat)} {i : Nat}
theorem rnC {d : Nat} (hk : RunN C ops rest K (e.app (some d) σ)) (hg : Guard ops σ o true := by first | exact gd_n rfl rfl | exact gd_t rfl rfl rfl rfl | exact gd_t rfl rfl rfl (by assumption)) (hd : o.dst = some d := by rfl) (h : LOp C o σ e ro := by exact lopC) : RunN C ops (o :: rest) K σ := rn_any hg hd h hk
theorem rkC {d : Nat} (hk : RunK C ops W (i + 1) rest K (e.app (some d) σ)) (hg : Guard ops σ o true := by first | exact gd_n rfl rfl | exact gd_t rfl rfl rfl rfl | exact gd_t rfl rfl rfl (by assumption)) (hd' : o.dst = some d := by rfl) (hd : dOk C o.dst = true := by rfl) (h : LOp C o σ e ro := by exact lopC)
    (hro : ∀ x, ro x = true → okObj ops W i x = true := by first | exact fun _ => ro_none | exact ro_one rfl | exact ro_k1 rfl | exact ro_one (by kernel_rfl) | exact ro_k1 (by kernel_rfl) | exact ro_kIn (by decide)) (hob : ∀ p ∈ e.obj, (i, p.1) ∈ W := by first | exact ob_none | exact ob_one (by decide) | decide) : RunK C ops W i (o :: rest) K σ := rk_wr hg hd' hd h hro hob hk
end steps
end D8
open D8
/-! whole sets -/
theorem wTo_iff {l : List Dot} : ∀ (n k : Nat), wTo l k n = true ↔ ∀ i, k ≤ i → i < k + n → wOk l i
  | 0, k => ⟨fun _ i h1 h2 => by omega, fun _ => rfl⟩
  | n + 1, k => by
    rw [wTo, Bool.and_eq_true, decide_eq_true_eq, wTo_iff n (k + 1)]
    constructor
    · rintro ⟨h1, h2⟩ i a b
      by_cases e : i = k
      · rw [e]; exact h1
      · exact h2 i (by omega) (by omega)
    · exact fun h => ⟨h k (Nat.le_refl _) (by omega), fun i a b => h i (by omega) (by omega)⟩
theorem wok_new {v : List Int} {d : Dot} (h : nextF v d.1 = (d, 0)) : nodeF d.1 = true ∧ getF v d.1 ≠ 18446744073709551615 ∧ d = newD v d.1 := by
  unfold nextF at h
  split at h
  · cases h
  · rename_i hn
    split at h
    · cases h
    · rename_i hm
      refine ⟨bT hn, hm, ?_⟩
      have h1 := (Prod.mk.inj h).1
      unfold newD; exact h1.symm
theorem span_whole {l : List Dot} (h : wholeF l = true) : ∀ i, i ≤ l.length → (∀ n ∈ spanTo l i, 0 ≤ n ∧ n < 18446744073709551616) ∧ ∀ d, hasF (spanTo l i) d = true ↔ d ∈ l.take i
  | 0, _ => ⟨(by decide : ∀ n ∈ zeroV, (0 : Int) ≤ n ∧ n < 18446744073709551616), fun d => by
    rw [List.take_zero]
    refine ⟨fun k => ?_, fun k => by cases k⟩
    rw [spanTo, has_zero] at k; cases k⟩
  | i + 1, hi => by
    obtain ⟨h1, h2⟩ := span_whole h i (by omega)
    have hw : wOk l i := by
      unfold wholeF at h
      rw [Bool.and_eq_true] at h
      exact (wTo_iff l.length 0).1 h.1 i (Nat.zero_le _) (by omega)
    obtain ⟨k1, k2, k3⟩ := wok_new hw
    have hd := next_dot hw h1
    have e : spanTo l (i + 1) = withF (spanTo l i) (newD (spanTo l i) (l.getD i default).1) := by rw [spanTo, if_pos hd, ← k3]
    have h8 := spanTo_len l i
    refine ⟨?_, fun d => ?_⟩
    · rw [e, with_is k1]
      intro n hn
      obtain ⟨g1, g2⟩ := getF_in h1 (l.getD i default).1
      rcases List.mem_or_eq_of_mem_set hn with q | rfl
      · exact h1 n q
      · omega
    · rw [e, with_has h8 h1 k1, Bool.or_eq_true, decide_eq_true_eq, h2 d, take_get' (by omega), List.mem_append, List.mem_singleton, ← k3]
theorem whole_law {l : List Dot} (h : wholeF l = true) : (∀ d, hasF (spanTo l l.length) d = decide (d ∈ l)) ∧ (l.filter fun d => hasF (spanTo l l.length) d) = l := by
  have := (span_whole h l.length (Nat.le_refl _)).2
  rw [List.take_length] at this
  refine ⟨fun d => ?_, List.filter_eq_self.2 fun d hd => (this d).2 hd⟩
  rw [Bool.eq_iff_iff, this d, decide_eq_true_eq]
end Go.Proofs.Ytgiekdhipbikoaa.Ca
