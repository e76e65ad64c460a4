/- carts, the laws: CartMany -/
import Derived.Test.YtpmobjnaiaogbaaCaV
import Derived.Test.YtpmobjnaiaogbaaKj
namespace Go.Proofs.Ytpmobjnaiaogbaa.Ca
open Go Go.RowKit Go.Aw Go.Aw.Cart Go.Aw.Ord Go.Sort
set_option linter.unusedVariables false
set_option linter.unusedSimpArgs false
set_option maxRecDepth 8000
set_option maxHeartbeats 4000000
/-- so many entries of one node -/
def manyL (nd : Int) : Nat → List Ent
  | 0 => []
  | i + 1 => manyL nd i ++ [(1, nd, (i : Int) + 1, 1)]
theorem many_len (nd : Int) : ∀ i, (manyL nd i).length = i
  | 0 => rfl
  | i + 1 => by rw [manyL, List.length_append, many_len nd i]; rfl
theorem many_mem {nd : Int} {e : Ent} : ∀ {i : Nat}, e ∈ manyL nd i ↔ ∃ k : Nat, k < i ∧ e = (1, nd, (k : Int) + 1, 1)
  | 0 => by simp [manyL]
  | i + 1 => by
    rw [manyL, List.mem_append, many_mem (i := i), List.mem_singleton]
    constructor
    · rintro (⟨k, h, e⟩ | e)
      · exact ⟨k, by omega, e⟩
      · exact ⟨i, by omega, e⟩
    · rintro ⟨k, h, e⟩
      by_cases hk : k = i
      · subst hk; exact .inr e
      · exact .inl ⟨k, by omega, e⟩
theorem many_up {nd : Int} : ∀ i, (manyL nd i).Pairwise ltE
  | 0 => List.Pairwise.nil
  | i + 1 => by
    rw [manyL]
    refine List.pairwise_append.2 ⟨many_up i, List.pairwise_singleton _ _, fun a ha b hb => ?_⟩
    obtain ⟨k, hk, rfl⟩ := many_mem.1 ha
    obtain rfl := List.mem_singleton.1 hb
    exact .inr ⟨rfl, .inr ⟨rfl, .inl (by show (k : Int) + 1 < (i : Int) + 1; omega)⟩⟩
theorem many_ok {nd : Int} {v : List Int} {i : Nat} (h : i ≤ 400) (hn : 1 ≤ nd ∧ nd ≤ 8) (hv : (i : Int) ≤ getF v nd) : Ok v (manyL nd i) where
  few := by rw [many_len]; exact h
  up := many_up i
  ent e he := by
    obtain ⟨k, hk, rfl⟩ := many_mem.1 he
    exact decide_eq_true (by simp only; omega)
  has e he := by
    obtain ⟨k, hk, rfl⟩ := many_mem.1 he
    unfold hasF dotF dotE
    rw [Bool.and_eq_true, decide_eq_true_eq, decide_eq_true_eq]
    simp only
    exact ⟨⟨hn.1, hn.2, by omega⟩, by omega⟩
  one e he f hf hd := by
    obtain ⟨k, hk, rfl⟩ := many_mem.1 he
    obtain ⟨j, hj, rfl⟩ := many_mem.1 hf
    have e : (k : Int) + 1 = (j : Int) + 1 := congrArg Prod.snd hd
    obtain rfl : k = j := by omega
    rfl
theorem many_of {nd : Int} {i : Nat} : ofF (manyL nd i) 1 = manyL nd i := List.filter_eq_self.2 fun e he => by
  obtain ⟨k, hk, rfl⟩ := many_mem.1 he; rfl
theorem many_up1 {nd : Int} : ∀ i, upS (manyL nd i) = i ∧ dnS (manyL nd i) = 0
  | 0 => ⟨rfl, rfl⟩
  | i + 1 => by
    rw [manyL, upS_snoc.1, upS_snoc.2, (many_up1 i).1, (many_up1 i).2]
    exact ⟨rfl, rfl⟩
theorem many_q {nd : Int} {i : Nat} (h : i ≤ 1000) : getQ (manyL nd i) 1 = i := by
  rw [getQ_is, many_of, (many_up1 i).1, (many_up1 i).2]
  have e : mnF (i : Int) = i := by unfold mnF; rw [if_neg (by omega)]
  have e0 : mnF 0 = 0 := rfl
  rw [e, e0]
  unfold valF
  simp only
  split <;> omega
theorem many_live {nd : Int} {i : Nat} (h : i ≤ 2000) (hn : 1 ≤ nd ∧ nd ≤ 8) : (liveF (manyL nd i)).length = i := by
  rw [live_set _ (by rw [many_len]; exact h), (setF_full fun d hd => ?_).2 ?_, List.length_map, many_len]
  · refine (nodup_map (up_nodup (many_up i))).2 fun e he f hf hd => ?_
    obtain ⟨k, hk, rfl⟩ := many_mem.1 he
    obtain ⟨j, hj, rfl⟩ := many_mem.1 hf
    have e : (k : Int) + 1 = (j : Int) + 1 := congrArg Prod.snd hd
    obtain rfl : k = j := by omega
    rfl
  · obtain ⟨e, he, rfl⟩ := List.mem_map.1 hd
    obtain ⟨k, hk, rfl⟩ := many_mem.1 he
    exact decide_eq_true ⟨hn.1, hn.2, by show (0 : Int) < (k : Int) + 1; omega⟩
namespace B4
theorem lopC {C : Ctx} {o : Oper} {σ : St} {e : Eff} {ro : Nat → Bool} (h : LOp C o σ e ro := by
    first
      | (apply lop_bst4; (focus rfl); (focus exact inferInstance); (focus exact inferInstance); (focus exact inferInstance); (focus rfl); (focus rfl); (focus rfl))
      | (apply lop_ap_ent; (focus rfl); (focus exact inferInstance); (focus exact inferInstance); (focus exact inferInstance); (focus rfl); (focus rfl); (focus rfl); (focus rfl); (focus rfl); (focus rfl); (focus first | (simp only [maxLen, List.length_append, List.length_cons, List.length_nil, List.length_take, List.length_drop, List.length_map]; omega) | omega); (focus first | (simp only [maxLen, List.length_append, List.length_cons, List.length_nil, List.length_take, List.length_drop, List.length_map]; omega) | omega); (focus rfl))
      | (apply lop_call1; (focus rfl); (focus exact inferInstance); (focus exact lk_cart rfl); (focus exact inferInstance); (focus exact inferInstance); (focus first | exact True.intro | assumption | rfl | omega | ((repeat' (first | assumption | refine And.intro ?_ ?_ | omega | rfl)); done) | fail); (focus rfl))
            | (apply lop_call2; (focus rfl); (focus exact inferInstance); (focus exact lk_cart rfl); (focus exact lk_cart rfl); (focus exact inferInstance); (focus exact inferInstance); (focus first | exact True.intro | assumption | rfl | omega | ((repeat' (first | assumption | refine And.intro ?_ ?_ | omega | rfl)); done) | fail); (focus rfl))
            | (apply lop_call2; (focus rfl); (focus exact inferInstance); (focus exact lk_cart rfl); (focus first | exact lk_m1 rfl | exact lk_m2 rfl | exact lk_m3 rfl | exact lk_o rfl | exact lk_a2 rfl | exact lk_a3 rfl | exact lk_a4 rfl | exact lk_a1 rfl | exact lk_a5 rfl | exact lk_a6 rfl | exact lk_a7 rfl | exact lk_a8 rfl | exact lk_a rfl); (focus exact inferInstance); (focus exact inferInstance); (focus first | exact True.intro | assumption | rfl | omega | ((repeat' (first | assumption | refine And.intro ?_ ?_ | omega | rfl)); done) | fail); (focus rfl))
      | exact lopV
      | fail) : LOp C o σ e ro := h
section steps
variable {C : Ctx} {ops : Array Oper} {o : Oper} {rest : List Oper} {K : St → Prop} {σ : St} {e : Eff} {ro : Nat → Bool} {W : List (Nat × Nat)} {i : Nat}
theorem rnC {d : Nat} (hk : RunN C ops rest K (e.app (some d) σ)) (hg : Guard ops σ o true := by first | exact gd_n rfl rfl | exact gd_t rfl rfl rfl rfl | exact gd_t rfl rfl rfl (by assumption)) (hd : o.dst = some d := by rfl) (h : LOp C o σ e ro := by exact lopC) : RunN C ops (o :: rest) K σ := rn_any hg hd h hk
theorem rkC {d : Nat} (hk : RunK C ops W (i + 1) rest K (e.app (some d) σ)) (hg : Guard ops σ o true := by first | exact gd_n rfl rfl | exact gd_t rfl rfl rfl rfl | exact gd_t rfl rfl rfl (by assumption)) (hd' : o.dst = some d := by rfl) (hd : dOk C o.dst = true := by rfl) (h : LOp C o σ e ro := by exact lopC)
    (hro : ∀ x, ro x = true → okObj ops W i x = true := by first | exact fun _ => ro_none | exact ro_one rfl | exact ro_one (by kernel_rfl) | exact ro_kIn (by decide)) (hob : ∀ p ∈ e.obj, (i, p.1) ∈ W := by first | exact ob_none | exact ob_one (by decide) | decide) : RunK C ops W i (o :: rest) K σ := rk_wr hg hd' hd h hro hob hk
end steps
end B4
open B4
end Go.Proofs.Ytpmobjnaiaogbaa.Ca
