/- dots, the laws: DotsSets, DotsWhole; dots: the laws' contracts over what was read; dots, plain: a whole set is one that has of each dot the one ahead, too; the reference, chapters 03 and 06: dots, nodes, how entries stand to each other; the reference, chapter 06: entries in order, one by one; entries and carts as the reference's; the reference, chapter 06: carts as the reference's; which are the same, which may be -/
import Derived.Test.YtgiekdhipbikoaaCd7
import Derived.Test.YtgiekdhipbikoaaCe2
import Derived.Test.YtgiekdhipbikoaaCbR
import Derived.Test.YtgiekdhipbikoaaCaQ
import Derived.Test.YtgiekdhipbikoaaCaV
import Derived.Test.YtgiekdhipbikoaaKj
namespace Go.Proofs.Ytgiekdhipbikoaa.Ca
open Go Go.RowKit Go.Aw Go.Aw.Cart Go.Aw.Ord Go.Sort
set_option linter.unusedVariables false
set_option linter.unusedSimpArgs false
set_option maxRecDepth 8000
set_option maxHeartbeats 4000000
theorem set_right {l : List Dot} (h : l.length ≤ 2000) : dRightF (G.dotsOf l) = true := by
  have := setF_len l
  rw [dof_is h]
  exact dr_of (setF_up l) (fun d hd => (setF_mem.1 hd).2) (by omega)
theorem set_has {l : List Dot} (h : l.length ≤ 2000) {d : Dot} (hd : dotF d = true) : d ∈ G.dotsOf l ↔ d ∈ l := by
  rw [dof_is h, setF_mem]
  exact ⟨fun k => k.1, fun k => ⟨k, hd⟩⟩
theorem set_swap {a b : List Dot} (h : (a ++ b).length ≤ 2000) : G.dotsOf (a ++ b) = G.dotsOf (b ++ a) := by
  rw [dof_is h, dof_is (by rw [List.length_append] at h ⊢; omega)]
  exact setF_ext fun x _ => by rw [List.mem_append, List.mem_append]; exact or_comm
theorem some_has {a b : List Dot} {has : Bool} {d : Dot} : d ∈ someF a b has ↔ d ∈ a ∧ (decide (d ∈ b) == has) = true := List.mem_filter
theorem set_parts {a : List Dot} (p : Dot → Bool) : (setF (a.filter p)).length + (setF (a.filter fun d => !p d)).length = (setF a).length := by
  have e : ∀ q : Dot → Bool, setF (a.filter q) = (setF a).filter q := fun q =>
    up_ext ltD_ir ltD_tr (setF_up _) ((setF_up a).sublist List.filter_sublist) fun x => by
      rw [setF_mem, List.mem_filter, List.mem_filter, setF_mem]
      exact ⟨fun ⟨⟨h1, h2⟩, h3⟩ => ⟨⟨h1, h3⟩, h2⟩, fun ⟨⟨h1, h3⟩, h2⟩ => ⟨⟨h1, h2⟩, h3⟩⟩
  rw [e, e]
  generalize setF a = l
  induction l with
  | nil => rfl
  | cons x l ih =>
    cases h : p x with
    | true => rw [List.filter_cons_of_pos h, List.filter_cons_of_neg (by rw [h]; simp), List.length_cons, List.length_cons]; omega
    | false => rw [List.filter_cons_of_neg (by rw [h]; simp), List.filter_cons_of_pos (by rw [h]; rfl), List.length_cons, List.length_cons]; omega
theorem set_count {a b : List Dot} (h : a.length ≤ 2000) : (G.dotsOf (someF a b true)).length + (G.dotsOf (someF a b false)).length = (G.dotsOf a).length := by
  rw [dof_is (Nat.le_trans (some_len a b true) h), dof_is (Nat.le_trans (some_len a b false) h), dof_is h, ← set_parts (a := a) (someP b true)]
  congr 3
  unfold someF
  refine List.filter_congr fun d _ => ?_
  unfold someP
  cases decide (d ∈ b) <;> rfl
namespace D8
theorem lopC {C : Ctx} {o : Oper} {σ : St} {e : Eff} {ro : Nat → Bool} (h : LOp C o σ e ro := by
    first
      | exact D7.lopC
      | (apply lop_call2; (focus rfl); (focus exact inferInstance); (focus first | exact lk_m1 rfl | exact lk_m2 rfl | exact lk_m3 rfl | exact lk_o rfl | exact lk_a2 rfl | exact lk_a3 rfl | exact lk_a4 rfl | exact lk_a1 rfl | exact lk_a5 rfl | exact lk_a6 rfl | exact lk_a7 rfl | exact lk_a8 rfl | exact lk_a rfl); (focus exact lk_v8 (by assumption) rfl); (focus exact inferInstance); (focus exact inferInstance); (focus first | exact True.intro | assumption | rfl | omega | ((repeat' (first | assumption | refine And.intro ?_ ?_ | omega | rfl)); done) | fail); (focus rfl))
      | fail) : LOp C o σ e ro := h
section steps
variable {C : Ctx} {ops : Array Oper} {o : Oper} {rest : List Oper} {K : St → Prop} {σ : St} {e : Eff} {ro : Nat → Bool} {W : List (Nat × Nat)} {i : Nat}
theorem rnC {d : Nat} (hk : RunN C ops rest K (e.app (some d) σ)) (hg : Guard ops σ o true := by first | exact gd_n rfl rfl | exact gd_t rfl rfl rfl rfl | exact gd_t rfl rfl rfl (by assumption)) (hd : o.dst = some d := by rfl) (h : LOp C o σ e ro := by exact lopC) : RunN C ops (o :: rest) K σ := rn_any hg hd h hk
theorem rkC {d : Nat} (hk : RunK C ops W (i + 1) rest K (e.app (some d) σ)) (hg : Guard ops σ o true := by first | exact gd_n rfl rfl | exact gd_t rfl rfl rfl rfl | exact gd_t rfl rfl rfl (by assumption)) (hd' : o.dst = some d := by rfl) (hd : dOk C o.dst = true := by rfl) (h : LOp C o σ e ro := by exact lopC)
    (hro : ∀ x, ro x = true → okObj ops W i x = true := by first | exact fun _ => ro_none | exact ro_one rfl | exact ro_k1 rfl | exact ro_one (by kernel_rfl) | exact ro_k1 (by kernel_rfl) | exact ro_kIn (by decide)) (hob : ∀ p ∈ e.obj, (i, p.1) ∈ W := by first | exact ob_none | exact ob_one (by decide) | decide) : RunK C ops W i (o :: rest) K σ := rk_wr hg hd' hd h hro hob hk
end steps
end D8
open D8
/-! whole sets -/
theorem wTo_iff {l : List Dot} : ∀ (n k : Nat), wTo l k n = true ↔ ∀ i, k ≤ i → i < k + n → wOk l i
  | 0, k => ⟨fun _ i h1 h2 => by omega, fun _ => rfl⟩
  | n + 1, k => by
    rw [wTo, Bool.and_eq_true, decide_eq_true_eq, wTo_iff n (k + 1)]
    constructor
    · rintro ⟨h1, h2⟩ i a b
      by_cases e : i = k
      · rw [e]; exact h1
      · exact h2 i (by omega) (by omega)
    · exact fun h => ⟨h k (Nat.le_refl _) (by omega), fun i a b => h i (by omega) (by omega)⟩
theorem wok_new {v : List Int} {d : Dot} (h : nextF v d.1 = (d, 0)) : nodeF d.1 = true ∧ getF v d.1 ≠ 18446744073709551615 ∧ d = newD v d.1 := by
  unfold nextF at h
  split at h
  · cases h
  · rename_i hn
    split at h
    · cases h
    · rename_i hm
      refine ⟨bT hn, hm, ?_⟩
      have h1 := (Prod.mk.inj h).1
      unfold newD; exact h1.symm
theorem span_whole {l : List Dot} (h : wholeF l = true) : ∀ i, i ≤ l.length → (∀ n ∈ spanTo l i, 0 ≤ n ∧ n < 18446744073709551616) ∧ ∀ d, hasF (spanTo l i) d = true ↔ d ∈ l.take i
  | 0, _ => ⟨(by decide : ∀ n ∈ zeroV, (0 : Int) ≤ n ∧ n < 18446744073709551616), fun d => by
    rw [List.take_zero]
    refine ⟨fun k => ?_, fun k => by cases k⟩
    rw [spanTo, has_zero] at k; cases k⟩
  | i + 1, hi => by
    obtain ⟨h1, h2⟩ := span_whole h i (by omega)
    have hw : wOk l i := by
      unfold wholeF at h
      rw [Bool.and_eq_true] at h
      exact (wTo_iff l.length 0).1 h.1 i (Nat.zero_le _) (by omega)
    obtain ⟨k1, k2, k3⟩ := wok_new hw
    have hd := next_dot hw h1
    have e : spanTo l (i + 1) = withF (spanTo l i) (newD (spanTo l i) (l.getD i default).1) := by rw [spanTo, if_pos hd, ← k3]
    have h8 := spanTo_len l i
    refine ⟨?_, fun d => ?_⟩
    · rw [e, with_is k1]
      intro n hn
      obtain ⟨g1, g2⟩ := getF_in h1 (l.getD i default).1
      rcases List.mem_or_eq_of_mem_set hn with q | rfl
      · exact h1 n q
      · omega
    · rw [e, with_has h8 h1 k1, Bool.or_eq_true, decide_eq_true_eq, h2 d, take_get' (by omega), List.mem_append, List.mem_singleton, ← k3]
theorem whole_law {l : List Dot} (h : wholeF l = true) : (∀ d, hasF (spanTo l l.length) d = decide (d ∈ l)) ∧ (l.filter fun d => hasF (spanTo l l.length) d) = l := by
  have := (span_whole h l.length (Nat.le_refl _)).2
  rw [List.take_length] at this
  refine ⟨fun d => ?_, List.filter_eq_self.2 fun d hd => (this d).2 hd⟩
  rw [Bool.eq_iff_iff, this d, decide_eq_true_eq]
end Go.Proofs.Ytgiekdhipbikoaa.Ca
namespace Go.Proofs.Ytgiekdhipbikoaa.Ca
open Go Go.RowKit Go.Aw Go.Aw.Cart
set_option linter.unusedVariables false
set_option linter.unusedSimpArgs false
theorem rd_dots : Reads Try.prog 22 (List Dot) (fun l => [.sl 2 (l.map fun d => dR d) false]) (fun l => l.length ≤ maxLen ∧ ∀ d ∈ l, DB d) :=
  reads_slice inferInstance inferInstance (by decide) rd_dot
end Go.Proofs.Ytgiekdhipbikoaa.Ca
namespace Go.Proofs.Ytgiekdhipbikoaa.Ca
open Go Go.RowKit Go.Aw Go.Aw.Cart Go.Aw.Ord Go.Sort
set_option linter.unusedVariables false
set_option linter.unusedSimpArgs false
set_option maxRecDepth 8000
set_option maxHeartbeats 4000000
theorem getF_with {v : List Int} {d : Dot} {n : Int} (hv : v.length = 8) (hd : nodeF d.1 = true) : getF (withF v d) n = if n = d.1 then (if getF v n < d.2 then d.2 else getF v n) else getF v n := by
  have h1 := of_decide_eq_true hd
  unfold getF withF
  rw [if_pos hd]
  by_cases hn : 1 ≤ n ∧ n ≤ 8
  · rw [if_pos hn, if_pos hn, List.getD_eq_getElem?_getD, List.getElem?_set]
    by_cases e : n = d.1
    · subst e
      rw [if_pos rfl, if_pos (by omega), if_pos rfl]; rfl
    · rw [if_neg (by omega), if_neg e, ← List.getD_eq_getElem?_getD]
  · rw [if_neg hn, if_neg hn, if_neg (by omega)]
theorem zero_get : ∀ k, zeroV.getD k default = 0
  | 0 => rfl | 1 => rfl | 2 => rfl | 3 => rfl | 4 => rfl | 5 => rfl | 6 => rfl | 7 => rfl
  | k + 8 => rfl
theorem span_nn (l : List Dot) : ∀ i, ∀ n ∈ spanTo l i, 0 ≤ n
  | 0 => (by decide : ∀ n ∈ zeroV, (0 : Int) ≤ n)
  | i + 1 => by
    rw [spanTo]
    split
    · rename_i hd
      have h1 := of_decide_eq_true hd
      unfold withF
      rw [if_pos (show nodeF (l.getD i default).1 = true from decide_eq_true ⟨h1.1, h1.2.1⟩)]
      intro n hn
      rcases List.mem_or_eq_of_mem_set hn with k | rfl
      · exact span_nn l i n k
      · split <;> omega
    · exact span_nn l i
theorem span_pos (l : List Dot) (i : Nat) (n : Int) : 0 ≤ getF (spanTo l i) n := by
  unfold getF
  split
  · rename_i hn
    have hi : (n - 1).toNat < (spanTo l i).length := by rw [spanTo_len]; omega
    rw [getD_at hi]; exact span_nn l i _ (List.getElem_mem _)
  · exact Int.le_refl _
theorem drTo_iff {l : List Dot} : ∀ (n k : Nat), drTo l k n = true ↔ ∀ i, k ≤ i → i < k + n → drow l i = true
  | 0, k => ⟨fun _ i h1 h2 => by omega, fun _ => rfl⟩
  | n + 1, k => by
    rw [drTo, Bool.and_eq_true, drTo_iff n (k + 1)]
    constructor
    · rintro ⟨h1, h2⟩ i a b
      by_cases e : i = k
      · rw [e]; exact h1
      · exact h2 i (by omega) (by omega)
    · exact fun h => ⟨h k (Nat.le_refl _) (by omega), fun i a b => h i (by omega) (by omega)⟩
theorem dr_is {l : List Dot} (h : dRightF l = true) : l.Pairwise ltD ∧ (∀ d ∈ l, dotF d = true) ∧ l.length ≤ 2000 := by
  unfold dRightF at h
  rw [Bool.and_eq_true, decide_eq_true_eq] at h
  have h1 := (drTo_iff l.length 0).1 h.1
  have hd : ∀ d ∈ l, dotF d = true := fun d hd => by
    obtain ⟨i, hi, e⟩ := List.getElem_of_mem hd
    have := h1 i (Nat.zero_le _) (by omega)
    unfold drow at this
    rw [Bool.and_eq_true, getD_at hi, e] at this
    exact this.1
  have ha : ∀ i, (hi : i + 1 < l.length) → ltD l[i] l[i + 1] := fun i hi => by
    have := h1 (i + 1) (Nat.zero_le _) (by omega)
    unfold drow at this
    rw [Bool.and_eq_true, Bool.or_eq_true, decide_eq_true_eq, decide_eq_true_eq] at this
    rcases this.2 with q | q
    · omega
    · rw [show i + 1 - 1 = i by omega, getD_at hi, getD_at (show i < l.length by omega)] at q
      exact cmpD_lt.1 q
  refine ⟨List.pairwise_iff_getElem.2 ?_, hd, h.2⟩
  intro i j hi hj hij
  obtain ⟨n, rfl⟩ : ∃ n, j = i + 1 + n := ⟨j - (i + 1), by omega⟩
  clear hij
  induction n with
  | zero => exact ha i hj
  | succ n ih => exact ltD_tr _ _ _ (ih (by omega)) (ha (i + 1 + n) hj)
theorem span_le {l : List Dot} {n : Int} {B : Int} (hB : 0 ≤ B) : ∀ i, (∀ j, j < i → (l.getD j default).1 = n → (l.getD j default).2 ≤ B) → getF (spanTo l i) n ≤ B
  | 0, _ => by
    rw [spanTo]; unfold getF
    split
    · rw [zero_get]; exact hB
    · exact hB
  | i + 1, h => by
    have ih := span_le hB i fun j hj => h j (by omega)
    have hi := h i (by omega)
    rw [spanTo]
    split
    · rename_i hd
      have h1 := of_decide_eq_true hd
      rw [getF_with (spanTo_len l i) (decide_eq_true ⟨h1.1, h1.2.1⟩)]
      split
      · rename_i e
        split
        · exact hi e.symm
        · exact ih
      · exact ih
    · exact ih
theorem span_mono {l : List Dot} {n : Int} (i : Nat) : getF (spanTo l i) n ≤ getF (spanTo l (i + 1)) n := by
  rw [spanTo]
  split
  · rename_i hd
    have h1 := of_decide_eq_true hd
    rw [getF_with (spanTo_len l i) (decide_eq_true ⟨h1.1, h1.2.1⟩)]
    split
    · split
      · omega
      · exact Int.le_refl _
    · exact Int.le_refl _
  · exact Int.le_refl _
theorem span_ge {l : List Dot} {j : Nat} (hd : dotF (l.getD j default) = true) : ∀ i, j < i → (l.getD j default).2 ≤ getF (spanTo l i) (l.getD j default).1
  | i + 1, h => by
    by_cases e : j = i
    · subst e
      have h1 := of_decide_eq_true hd
      rw [spanTo, if_pos hd, getF_with (spanTo_len l j) (decide_eq_true ⟨h1.1, h1.2.1⟩), if_pos rfl]
      split <;> omega
    · exact Int.le_trans (span_ge hd i (by omega)) (span_mono i)
/-- the dot ahead is there, too -/
def gapF (l : List Dot) (d : Dot) : Bool := decide (0 < d.2 - 1) && !decide ((d.1, d.2 - 1) ∈ l)
theorem whole_is {l : List Dot} (hb : ∀ d ∈ l, d.2 < 18446744073709551616) : wholeF l = (dRightF l && l.all fun d => !gapF l d) := by
  rw [Bool.eq_iff_iff]
  constructor
  · intro h
    have hr : dRightF l = true := by unfold wholeF at h; rw [Bool.and_eq_true] at h; exact h.2
    rw [hr, Bool.true_and, List.all_eq_true]
    intro d hd
    obtain ⟨i, hi, e⟩ := List.getElem_of_mem hd
    have hw : wOk l i := by
      unfold wholeF at h
      rw [Bool.and_eq_true] at h
      exact (wTo_iff l.length 0).1 h.1 i (Nat.zero_le _) (by omega)
    obtain ⟨h1, h2⟩ := span_whole h i (by omega)
    obtain ⟨k1, k2, k3⟩ := wok_new hw
    have e' : l.getD i default = d := by rw [getD_at hi, e]
    rw [e'] at k1 k2 k3
    have q2 : d.2 = getF (spanTo l i) d.1 + 1 := by
      have := congrArg Prod.snd k3
      exact this
    unfold gapF
    by_cases hz : 0 < d.2 - 1
    · have : hasF (spanTo l i) (d.1, d.2 - 1) = true := by
        unfold hasF dotF
        have n1 := of_decide_eq_true k1
        rw [decide_eq_true (show 1 ≤ d.1 ∧ d.1 ≤ 8 ∧ 0 < d.2 - 1 from ⟨n1.1, n1.2, hz⟩), Bool.true_and]
        exact decide_eq_true (show d.2 - 1 ≤ getF (spanTo l i) d.1 by omega)
      have hm := (h2 _).1 this
      rw [decide_eq_true (List.mem_of_mem_take hm)]
      simp
    · rw [decide_eq_false hz]; rfl
  · intro h
    rw [Bool.and_eq_true, List.all_eq_true] at h
    obtain ⟨hr, hg⟩ := h
    unfold wholeF
    rw [hr, Bool.and_true, wTo_iff]
    intro i _ hi
    obtain ⟨hup, hdot, _⟩ := dr_is hr
    have hil : i < l.length := by omega
    have em : l.getD i default = l[i] := getD_at hil
    have hm : l[i] ∈ l := List.getElem_mem hil
    have hdi := hdot _ hm
    have hgi := hg _ hm
    have hbi := hb _ hm
    have n1 := of_decide_eq_true hdi
    have up : ∀ j, j < i → ltD (l.getD j default) l[i] := fun j hj => by
      rw [getD_at (show j < l.length by omega)]
      exact List.pairwise_iff_getElem.1 hup j i (by omega) hil hj
    have g1 : getF (spanTo l i) l[i].1 ≤ l[i].2 - 1 := span_le (by omega) i fun j hj e => by
      have := up j hj
      unfold ltD at this
      omega
    have g2 : l[i].2 - 1 ≤ getF (spanTo l i) l[i].1 := by
      unfold gapF at hgi
      by_cases hz : 0 < l[i].2 - 1
      · rw [decide_eq_true hz, Bool.true_and, Bool.not_not, decide_eq_true_eq] at hgi
        obtain ⟨j, hj, ej⟩ := List.getElem_of_mem hgi
        have ej' : l.getD j default = (l[i].1, l[i].2 - 1) := by rw [getD_at hj, ej]
        have hji : j < i := by
          rcases Nat.lt_trichotomy j i with q | q | q
          · exact q
          · subst q; rw [em] at ej'; have := congrArg Prod.snd ej'; simp only at this; omega
          · have := List.pairwise_iff_getElem.1 hup i j hil hj q
            rw [ej] at this
            unfold ltD at this
            simp only at this
            omega
        have := span_ge (l := l) (j := j) (by rw [ej']; exact decide_eq_true ⟨n1.1, n1.2.1, hz⟩) i hji
        rw [ej'] at this
        exact this
      · have := span_pos l i l[i].1
        omega
    unfold wOk nextF
    rw [em, if_neg (by rw [show nodeF l[i].1 = true from decide_eq_true ⟨n1.1, n1.2.1⟩]; simp), if_neg (by omega)]
    rw [show getF (spanTo l i) l[i].1 + 1 = l[i].2 by omega]
end Go.Proofs.Ytgiekdhipbikoaa.Ca
namespace Go.Proofs.Ytgiekdhipbikoaa.Cr
open Go Go.RowKit Go.Aw Go.Aw.Cart Go.Aw.Ord Go.Proofs.Ytgiekdhipbikoaa.Ca
set_option linter.unusedVariables false
set_option linter.unusedSimpArgs false
set_option maxRecDepth 8000
set_option maxHeartbeats 4000000
theorem dotR_r (d : Dot) : PCall Try.prog 50 [dV d] (.p (.b (dotF d))) := by
  refine pcall_of Try.func50 rfl (fun w0 F S0 M0 => ?_)
  unfold dotF
  repeat' (first
      | refine rnJ ?_
      | refine rnSB ?_
      | refine rnG ?_
      | refine rnU ?_
      | ((fail_if_success (refine rnKn ?_)); refine rnP ?_ ?_ <;> (intro hq; try (have hq' := hq; simp only [hqs] at hq')))
      | refine rkJ ?_
      | refine rkSB ?_
      | refine rkF ?_
      | refine rkU ?_
      | ((fail_if_success (refine rkKn ?_)); refine rkP ?_ ?_ <;> (intro hq; try (have hq' := hq; simp only [hqs] at hq')))
      | refine stp ?_
      | refine aws_draws [] mixed (by kernel_rfl) ?_
      | refine ifT ?_
      | refine ifF ?_
      | (refine ifQ ?_ ?_ <;> (try (intro hn)))
      | (refine ifB ?_ ?_ <;> (intro hq; try (have hq' := hq; simp only [hqs] at hq'))))
  all_goals refine rt1 rfl rfl finS_p (rb ?_)
  all_goals first | exact decide_eq_decide.2 (by omega) | exact decide_eq_true (by omega) | exact decide_eq_false (by omega)
instance {d : Dot} : PC Try.prog 50 [dV d] True (.p (.b (dotF d))) := ⟨fun _ => dotR_r d⟩
theorem get_r (v : List Int) (n : Int) (hv : v.length = 8) : PCall Try.prog 92 [vV v, .p (.i n)] (.p (.k .u64 (getF v n))) := by
  refine pcall_of Try.func92 rfl (fun w0 F S0 M0 => ?_)
  repeat' (first
      | refine rnJ ?_
      | refine rnSB ?_
      | refine rnG ?_
      | refine rnU ?_
      | ((fail_if_success (refine rnKn ?_)); refine rnP ?_ ?_ <;> (intro hq; try (have hq' := hq; simp only [hqs] at hq')))
      | refine rkJ ?_
      | refine rkSB ?_
      | refine rkF ?_
      | refine rkU ?_
      | ((fail_if_success (refine rkKn ?_)); refine rkP ?_ ?_ <;> (intro hq; try (have hq' := hq; simp only [hqs] at hq')))
      | refine stp ?_
      | refine aws_draws [] mixed (by kernel_rfl) ?_
      | refine ifT ?_
      | refine ifF ?_
      | (refine ifQ ?_ ?_ <;> (try (intro hn)))
      | (refine ifB ?_ ?_ <;> (intro hq; try (have hq' := hq; simp only [hqs] at hq'))))
  refine aws_loopS [4, 5, 6, 7, 8, 9, 10, 11, 12, 13, 14, 15, 16] [] (fun (i : Nat) => [(5, .p (.i i))]) (fun _ => []) (fun i => i ≤ 8 ∧ ∀ j : Nat, j < i → (j : Int) + 1 ≠ n) (fun i => 8 - i) 0 ⟨Nat.zero_le _, fun j hj => absurd hj (Nat.not_lt_zero _)⟩ (by exact knA) (by exact knA) ?_
  rintro i β γ ⟨hi, hx⟩
  by_cases h8 : i < 8
  · have d1 : decide ((i : Int) < 8) = true := decide_eq_true (by omega)
    by_cases hn : (i : Int) + 1 = n
    · have d2 : decide ((i : Int) + 1 = n) = true := decide_eq_true hn
      have e : getF v n = v.getD (i : Int).toNat default := by
        unfold getF
        rw [if_pos (by omega)]
        congr 1
        omega
      rw [e]
      repeat' (first
          | refine rnJ ?_
          | refine rnSB ?_
          | refine rnG ?_
          | refine rnU ?_
          | ((fail_if_success (refine rnKn ?_)); refine rnP ?_ ?_ <;> (intro hq; try (have hq' := hq; simp only [hqs] at hq')))
          | refine rkJ ?_
          | refine rkSB ?_
          | refine rkF ?_
          | refine rkU ?_
          | ((fail_if_success (refine rkKn ?_)); refine rkP ?_ ?_ <;> (intro hq; try (have hq' := hq; simp only [hqs] at hq')))
          | refine stp ?_
          | refine aws_draws [] mixed (by kernel_rfl) ?_
          | refine ifT ?_
          | refine ifF ?_
          | (refine ifQ ?_ ?_ <;> (try (intro hn)))
          | (refine ifB ?_ ?_ <;> (intro hq; try (have hq' := hq; simp only [hqs] at hq'))))
      exact rt1 rfl rfl finS_p rfl
    · have d2 : decide ((i : Int) + 1 = n) = false := decide_eq_false hn
      repeat' (first
          | refine rnJ ?_
          | refine rnSB ?_
          | refine rnG ?_
          | refine rnU ?_
          | ((fail_if_success (refine rnKn ?_)); refine rnP ?_ ?_ <;> (intro hq; try (have hq' := hq; simp only [hqs] at hq')))
          | refine rkJ ?_
          | refine rkSB ?_
          | refine rkF ?_
          | refine rkU ?_
          | ((fail_if_success (refine rkKn ?_)); refine rkP ?_ ?_ <;> (intro hq; try (have hq' := hq; simp only [hqs] at hq')))
          | refine stp ?_
          | refine aws_draws [] mixed (by kernel_rfl) ?_
          | refine ifT ?_
          | refine ifF ?_
          | (refine ifQ ?_ ?_ <;> (try (intro hn)))
          | (refine ifB ?_ ?_ <;> (intro hq; try (have hq' := hq; simp only [hqs] at hq'))))
      refine ⟨i + 1, _, by omega, ⟨by omega, fun j hj => ?_⟩, .refl, by exact frA⟩
      by_cases e : j = i
      · rw [e]; exact hn
      · exact hx j (by omega)
  · have d1 : decide ((i : Int) < 8) = false := decide_eq_false (by omega)
    have e : getF v n = 0 := by
      unfold getF
      rw [if_neg]
      intro k
      exact hx (n - 1).toNat (by omega) (by omega)
    rw [e]
    repeat' (first
        | refine rnJ ?_
        | refine rnSB ?_
        | refine rnG ?_
        | refine rnU ?_
        | ((fail_if_success (refine rnKn ?_)); refine rnP ?_ ?_ <;> (intro hq; try (have hq' := hq; simp only [hqs] at hq')))
        | refine rkJ ?_
        | refine rkSB ?_
        | refine rkF ?_
        | refine rkU ?_
        | ((fail_if_success (refine rkKn ?_)); refine rkP ?_ ?_ <;> (intro hq; try (have hq' := hq; simp only [hqs] at hq')))
        | refine stp ?_
        | refine aws_draws [] mixed (by kernel_rfl) ?_
        | refine ifT ?_
        | refine ifF ?_
        | (refine ifQ ?_ ?_ <;> (try (intro hn)))
        | (refine ifB ?_ ?_ <;> (intro hq; try (have hq' := hq; simp only [hqs] at hq'))))
    exact rt1 rfl rfl finS_p rfl
instance {v : List Int} {n : Int} : PC Try.prog 92 [vV v, .p (.i n)] (v.length = 8) (.p (.k .u64 (getF v n))) := ⟨get_r v n⟩
theorem has_r (v : List Int) (d : Dot) (hv : v.length = 8) : PCall Try.prog 66 [vV v, dV d] (.p (.b (hasF v d))) := by
  refine pcall_of Try.func66 rfl (fun w0 F S0 M0 => ?_)
  unfold hasF
  cases h : dotF d with
  | true =>
    repeat' (first
        | refine rnJ ?_
        | refine rnSB ?_
        | refine rnG ?_
        | refine rnU ?_
        | ((fail_if_success (refine rnKn ?_)); refine rnP ?_ ?_ <;> (intro hq; try (have hq' := hq; simp only [hqs] at hq')))
        | refine rkJ ?_
        | refine rkSB ?_
        | refine rkF ?_
        | refine rkU ?_
        | ((fail_if_success (refine rkKn ?_)); refine rkP ?_ ?_ <;> (intro hq; try (have hq' := hq; simp only [hqs] at hq')))
        | refine stp ?_
        | refine aws_draws [] mixed (by kernel_rfl) ?_
        | refine ifT ?_
        | refine ifF ?_
        | (refine ifQ ?_ ?_ <;> (try (intro hn)))
        | (refine ifB ?_ ?_ <;> (intro hq; try (have hq' := hq; simp only [hqs] at hq'))))
    exact rt1 rfl rfl finS_p rfl
  | false =>
    repeat' (first
        | refine rnJ ?_
        | refine rnSB ?_
        | refine rnG ?_
        | refine rnU ?_
        | ((fail_if_success (refine rnKn ?_)); refine rnP ?_ ?_ <;> (intro hq; try (have hq' := hq; simp only [hqs] at hq')))
        | refine rkJ ?_
        | refine rkSB ?_
        | refine rkF ?_
        | refine rkU ?_
        | ((fail_if_success (refine rkKn ?_)); refine rkP ?_ ?_ <;> (intro hq; try (have hq' := hq; simp only [hqs] at hq')))
        | refine stp ?_
        | refine aws_draws [] mixed (by kernel_rfl) ?_
        | refine ifT ?_
        | refine ifF ?_
        | (refine ifQ ?_ ?_ <;> (try (intro hn)))
        | (refine ifB ?_ ?_ <;> (intro hq; try (have hq' := hq; simp only [hqs] at hq'))))
    exact rt1 rfl rfl finS_p rfl
instance {v : List Int} {d : Dot} : PC Try.prog 66 [vV v, dV d] (v.length = 8) (.p (.b (hasF v d))) := ⟨has_r v d⟩
theorem lessD_r (a b : Dot) : PCall Try.prog 51 [dV a, dV b] (.p (.b (decide (ltD a b)))) := by
  refine pcall_of Try.func51 rfl (fun w0 F S0 M0 => ?_)
  unfold ltD
  repeat' (first
      | refine rnJ ?_
      | refine rnSB ?_
      | refine rnG ?_
      | refine rnU ?_
      | ((fail_if_success (refine rnKn ?_)); refine rnP ?_ ?_ <;> (intro hq; try (have hq' := hq; simp only [hqs] at hq')))
      | refine rkJ ?_
      | refine rkSB ?_
      | refine rkF ?_
      | refine rkU ?_
      | ((fail_if_success (refine rkKn ?_)); refine rkP ?_ ?_ <;> (intro hq; try (have hq' := hq; simp only [hqs] at hq')))
      | refine stp ?_
      | refine aws_draws [] mixed (by kernel_rfl) ?_
      | refine ifT ?_
      | refine ifF ?_
      | (refine ifQ ?_ ?_ <;> (try (intro hn)))
      | (refine ifB ?_ ?_ <;> (intro hq; try (have hq' := hq; simp only [hqs] at hq'))))
  all_goals refine rt1 rfl rfl finS_p (rb ?_)
  all_goals first | exact decide_eq_decide.2 (by omega) | exact decide_eq_true (by omega) | exact decide_eq_false (by omega)
instance {a b : Dot} : PC Try.prog 51 [dV a, dV b] True (.p (.b (decide (ltD a b)))) := ⟨fun _ => lessD_r a b⟩
end Go.Proofs.Ytgiekdhipbikoaa.Cr
namespace Go.Proofs.Ytgiekdhipbikoaa.Cr
open Go Go.RowKit Go.Aw Go.Aw.Cart Go.Aw.Ord Go.Proofs.Ytgiekdhipbikoaa.Ca
set_option linter.unusedVariables false
set_option linter.unusedSimpArgs false
set_option maxRecDepth 8000
set_option maxHeartbeats 4000000
theorem lopC {C : Ctx} {o : Oper} {σ : St} {e : Eff} {ro : Nat → Bool} (h : LOp C o σ e ro := by
    first
      | (apply gField; (focus rfl); exact lop_fieldAddr_p rfl rfl (by decide) rfl rfl)
      | (apply G.lop_bst2; (focus rfl); (focus exact inferInstance); (focus exact inferInstance); (focus exact inferInstance); (focus rfl); (focus rfl); (focus rfl))
      | (apply lop_bst4; (focus rfl); (focus exact inferInstance); (focus exact inferInstance); (focus exact inferInstance); (focus rfl); (focus rfl); (focus rfl))
      | (apply lop_ap_ent; (focus rfl); (focus exact inferInstance); (focus exact inferInstance); (focus exact inferInstance); (focus rfl); (focus rfl); (focus rfl); (focus rfl); (focus rfl); (focus rfl); (focus first | (simp only [maxLen, List.length_append, List.length_cons, List.length_nil, List.length_take, List.length_drop, List.length_map]; omega) | omega); (focus first | (simp only [maxLen, List.length_append, List.length_cons, List.length_nil, List.length_take, List.length_drop, List.length_map]; omega) | omega); (focus rfl))
      | exact lopV
      | fail) : LOp C o σ e ro := h
section steps
variable {C : Ctx} {ops : Array Oper} {o : Oper} {rest : List Oper} {K : St → Prop} {σ : St} {e : Eff} {ro : Nat → Bool} {W : List (Nat × Nat)} {i : Nat}
theorem rnC {d : Nat} (hk : RunN C ops rest K (e.app (some d) σ)) (hg : Guard ops σ o true := by first | exact gd_n rfl rfl | exact gd_t rfl rfl rfl rfl | exact gd_t rfl rfl rfl (by assumption)) (hd : o.dst = some d := by rfl) (h : LOp C o σ e ro := by exact lopC) : RunN C ops (o :: rest) K σ := rn_any hg hd h hk
theorem rkC {d : Nat} (hk : RunK C ops W (i + 1) rest K (e.app (some d) σ)) (hg : Guard ops σ o true := by first | exact gd_n rfl rfl | exact gd_t rfl rfl rfl rfl | exact gd_t rfl rfl rfl (by assumption)) (hd' : o.dst = some d := by rfl) (hd : dOk C o.dst = true := by rfl) (h : LOp C o σ e ro := by exact lopC)
    (hro : ∀ x, ro x = true → okObj ops W i x = true := by first | exact fun _ => ro_none | exact ro_one rfl | exact ro_one (by kernel_rfl) | exact ro_kIn (by decide)) (hob : ∀ p ∈ e.obj, (i, p.1) ∈ W := by first | exact ob_none | exact ob_one (by decide) | decide) : RunK C ops W i (o :: rest) K σ := rk_wr hg hd' hd h hro hob hk
end steps
end Go.Proofs.Ytgiekdhipbikoaa.Cr
namespace Go.Proofs.Ytgiekdhipbikoaa.Cr
open Go Go.RowKit Go.Aw Go.Aw.Cart Go.Aw.Ord Go.Proofs.Ytgiekdhipbikoaa.Ca
set_option linter.unusedVariables false
set_option linter.unusedSimpArgs false
set_option maxRecDepth 8000
set_option maxHeartbeats 4000000
end Go.Proofs.Ytgiekdhipbikoaa.Cr
