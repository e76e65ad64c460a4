/- dots, the laws: DotsSets, DotsWhole; dots, plain: a whole set is one that has of each dot the one ahead, too; the model in plain Lean: which lists of events are whole, and what cart they make -/
import Derived.Test.YtgiekdhipbikoaaGreatCd7
import Derived.Test.YtgiekdhipbikoaaGreatCe2
namespace Go.Proofs.YtgiekdhipbikoaaGreat.Ca
open Go Go.RowKit Go.Aw Go.Aw.Cart Go.Aw.Ord Go.Sort
set_option linter.unusedVariables false
set_option linter.unusedSimpArgs false
set_option maxRecDepth 8000
set_option maxHeartbeats 4000000
theorem set_right {l : List Dot} (h : l.length ≤ 2000) : dRightF (G.dotsOf l) = true := by
  have := setF_len l
  rw [dof_is h]
  exact dr_of (setF_up l) (fun d hd => (setF_mem.1 hd).2) (by omega)
theorem set_has {l : List Dot} (h : l.length ≤ 2000) {d : Dot} (hd : dotF d = true) : d ∈ G.dotsOf l ↔ d ∈ l := by
  rw [dof_is h, setF_mem]
  exact ⟨fun k => k.1, fun k => ⟨k, hd⟩⟩
theorem set_swap {a b : List Dot} (h : (a ++ b).length ≤ 2000) : G.dotsOf (a ++ b) = G.dotsOf (b ++ a) := by
  rw [dof_is h, dof_is (by rw [List.length_append] at h ⊢; omega)]
  exact setF_ext fun x _ => by rw [List.mem_append, List.mem_append]; exact or_comm
theorem some_has {a b : List Dot} {has : Bool} {d : Dot} : d ∈ someF a b has ↔ d ∈ a ∧ (decide (d ∈ b) == has) = true := List.mem_filter
theorem set_parts {a : List Dot} (p : Dot → Bool) : (setF (a.filter p)).length + (setF (a.filter fun d => !p d)).length = (setF a).length := by
  have e : ∀ q : Dot → Bool, setF (a.filter q) = (setF a).filter q := fun q =>
    up_ext ltD_ir ltD_tr (setF_up _) ((setF_up a).sublist List.filter_sublist) fun x => by
      rw [setF_mem, List.mem_filter, List.mem_filter, setF_mem]
      exact ⟨fun ⟨⟨h1, h2⟩, h3⟩ => ⟨⟨h1, h3⟩, h2⟩, fun ⟨⟨h1, h3⟩, h2⟩ => ⟨⟨h1, h2⟩, h3⟩⟩
  rw [e, e]
  generalize setF a = l
  induction l with
  | nil => rfl
  | cons x l ih =>
    cases h : p x with
    | true => rw [List.filter_cons_of_pos h, List.filter_cons_of_neg (by rw [h]; simp), List.length_cons, List.length_cons]; omega
    | false => rw [List.filter_cons_of_neg (by rw [h]; simp), List.filter_cons_of_pos (by rw [h]; rfl), List.length_cons, List.length_cons]; omega
theorem set_count {a b : List Dot} (h : a.length ≤ 2000) : (G.dotsOf (someF a b true)).length + (G.dotsOf (someF a b false)).length = (G.dotsOf a).length := by
  rw [dof_is (Nat.le_trans (some_len a b true) h), dof_is (Nat.le_trans (some_len a b false) h), dof_is h, ← set_parts (a := a) (someP b true)]
  congr 3
  unfold someF
  refine List.filter_congr fun d _ => ?_
  unfold someP
  cases decide (d ∈ b) <;> rfl
namespace D8
theorem lopC {C : Ctx} {o : Oper} {σ : St} {e : Eff} {ro : Nat → Bool} (h : LOp C o σ e ro := by
    first
      | exact D7.lopC
      | (apply lop_call2; (focus rfl); (focus exact inferInstance); (focus first | exact lk_m1 rfl | exact lk_m2 rfl | exact lk_m3 rfl | exact lk_o rfl | exact lk_a2 rfl | exact lk_a3 rfl | exact lk_a4 rfl | exact lk_a1 rfl | exact lk_a5 rfl | exact lk_a6 rfl | exact lk_a7 rfl | exact lk_a8 rfl | exact lk_a rfl); (focus exact lk_v8 (by assumption) rfl); (focus exact inferInstance); (focus exact inferInstance); (focus first | exact True.intro | assumption | rfl | omega | ((repeat' (first | assumption | refine And.intro ?_ ?_ | omega | rfl)); done) | fail); (focus rfl))
      | fail) : LOp C o σ e ro := h
section steps
variable {C : Ctx} {ops : Array Oper} {o : Oper} {rest : List Oper} {K : St → Prop} {σ : St} {e : Eff} {ro : Nat → Bool} {W : List (Nat × Nat)} {i : Nat}
theorem rnC {d : Nat} (hk : RunN C ops rest K (e.app (some d) σ)) (hg : Guard ops σ o true := by first | exact gd_n rfl rfl | exact gd_t rfl rfl rfl rfl | exact gd_t rfl rfl rfl (by assumption)) (hd : o.dst = some d := by rfl) (h : LOp C o σ e ro := by exact lopC) : RunN C ops (o :: rest) K σ := rn_any hg hd h hk
theorem rkC {d : Nat} (hk : RunK C ops W (i + 1) rest K (e.app (some d) σ)) (hg : Guard ops σ o true := by first | exact gd_n rfl rfl | exact gd_t rfl rfl rfl rfl | exact gd_t rfl rfl rfl (by assumption)) (hd' : o.dst = some d := by rfl) (hd : dOk C o.dst = true := by rfl) (h : LOp C o σ e ro := by exact lopC)
    (hro : ∀ x, ro x = true → okObj ops W i x = true := by first | exact fun _ => ro_none | exact ro_one rfl | exact ro_k1 rfl | exact ro_one (by kernel_rfl) | exact ro_k1 (by kernel_rfl) | exact ro_kIn (by decide)) (hob : ∀ p ∈ e.obj, (i, p.1) ∈ W := by first | exact ob_none | exact ob_one (by decide) | decide) : RunK C ops W i (o :: rest) K σ := rk_wr hg hd' hd h hro hob hk
end steps
end D8
open D8
/-! whole sets -/
theorem wTo_iff {l : List Dot} : ∀ (n k : Nat), wTo l k n = true ↔ ∀ i, k ≤ i → i < k + n → wOk l i
  | 0, k => ⟨fun _ i h1 h2 => by omega, fun _ => rfl⟩
  | n + 1, k => by
    rw [wTo, Bool.and_eq_true, decide_eq_true_eq, wTo_iff n (k + 1)]
    constructor
    · rintro ⟨h1, h2⟩ i a b
      by_cases e : i = k
      · rw [e]; exact h1
      · exact h2 i (by omega) (by omega)
    · exact fun h => ⟨h k (Nat.le_refl _) (by omega), fun i a b => h i (by omega) (by omega)⟩
theorem wok_new {v : List Int} {d : Dot} (h : nextF v d.1 = (d, 0)) : nodeF d.1 = true ∧ getF v d.1 ≠ 18446744073709551615 ∧ d = newD v d.1 := by
  unfold nextF at h
  split at h
  · cases h
  · rename_i hn
    split at h
    · cases h
    · rename_i hm
      refine ⟨bT hn, hm, ?_⟩
      have h1 := (Prod.mk.inj h).1
      unfold newD; exact h1.symm
theorem span_whole {l : List Dot} (h : wholeF l = true) : ∀ i, i ≤ l.length → (∀ n ∈ spanTo l i, 0 ≤ n ∧ n < 18446744073709551616) ∧ ∀ d, hasF (spanTo l i) d = true ↔ d ∈ l.take i
  | 0, _ => ⟨(by decide : ∀ n ∈ zeroV, (0 : Int) ≤ n ∧ n < 18446744073709551616), fun d => by
    rw [List.take_zero]
    refine ⟨fun k => ?_, fun k => by cases k⟩
    rw [spanTo, has_zero] at k; cases k⟩
  | i + 1, hi => by
    obtain ⟨h1, h2⟩ := span_whole h i (by omega)
    have hw : wOk l i := by
      unfold wholeF at h
      rw [Bool.and_eq_true] at h
      exact (wTo_iff l.length 0).1 h.1 i (Nat.zero_le _) (by omega)
    obtain ⟨k1, k2, k3⟩ := wok_new hw
    have hd := next_dot hw h1
    have e : spanTo l (i + 1) = withF (spanTo l i) (newD (spanTo l i) (l.getD i default).1) := by rw [spanTo, if_pos hd, ← k3]
    have h8 := spanTo_len l i
    refine ⟨?_, fun d => ?_⟩
    · rw [e, with_is k1]
      intro n hn
      obtain ⟨g1, g2⟩ := getF_in h1 (l.getD i default).1
      rcases List.mem_or_eq_of_mem_set hn with q | rfl
      · exact h1 n q
      · omega
    · rw [e, with_has h8 h1 k1, Bool.or_eq_true, decide_eq_true_eq, h2 d, take_get' (by omega), List.mem_append, List.mem_singleton, ← k3]
theorem whole_law {l : List Dot} (h : wholeF l = true) : (∀ d, hasF (spanTo l l.length) d = decide (d ∈ l)) ∧ (l.filter fun d => hasF (spanTo l l.length) d) = l := by
  have := (span_whole h l.length (Nat.le_refl _)).2
  rw [List.take_length] at this
  refine ⟨fun d => ?_, List.filter_eq_self.2 fun d hd => (this d).2 hd⟩
  rw [Bool.eq_iff_iff, this d, decide_eq_true_eq]
end Go.Proofs.YtgiekdhipbikoaaGreat.Ca
namespace Go.Proofs.YtgiekdhipbikoaaGreat.Ca
open Go Go.RowKit Go.Aw Go.Aw.Cart Go.Aw.Ord Go.Sort
set_option linter.unusedVariables false
set_option linter.unusedSimpArgs false
set_option maxRecDepth 8000
set_option maxHeartbeats 4000000
theorem getF_with {v : List Int} {d : Dot} {n : Int} (hv : v.length = 8) (hd : nodeF d.1 = true) : getF (withF v d) n = if n = d.1 then (if getF v n < d.2 then d.2 else getF v n) else getF v n := by
  have h1 := of_decide_eq_true hd
  unfold getF withF
  rw [if_pos hd]
  by_cases hn : 1 ≤ n ∧ n ≤ 8
  · rw [if_pos hn, if_pos hn, List.getD_eq_getElem?_getD, List.getElem?_set]
    by_cases e : n = d.1
    · subst e
      rw [if_pos rfl, if_pos (by omega), if_pos rfl]; rfl
    · rw [if_neg (by omega), if_neg e, ← List.getD_eq_getElem?_getD]
  · rw [if_neg hn, if_neg hn, if_neg (by omega)]
theorem zero_get : ∀ k, zeroV.getD k default = 0
  | 0 => rfl | 1 => rfl | 2 => rfl | 3 => rfl | 4 => rfl | 5 => rfl | 6 => rfl | 7 => rfl
  | k + 8 => rfl
theorem span_nn (l : List Dot) : ∀ i, ∀ n ∈ spanTo l i, 0 ≤ n
  | 0 => (by decide : ∀ n ∈ zeroV, (0 : Int) ≤ n)
  | i + 1 => by
    rw [spanTo]
    split
    · rename_i hd
      have h1 := of_decide_eq_true hd
      unfold withF
      rw [if_pos (show nodeF (l.getD i default).1 = true from decide_eq_true ⟨h1.1, h1.2.1⟩)]
      intro n hn
      rcases List.mem_or_eq_of_mem_set hn with k | rfl
      · exact span_nn l i n k
      · split <;> omega
    · exact span_nn l i
theorem span_pos (l : List Dot) (i : Nat) (n : Int) : 0 ≤ getF (spanTo l i) n := by
  unfold getF
  split
  · rename_i hn
    have hi : (n - 1).toNat < (spanTo l i).length := by rw [spanTo_len]; omega
    rw [getD_at hi]; exact span_nn l i _ (List.getElem_mem _)
  · exact Int.le_refl _
theorem drTo_iff {l : List Dot} : ∀ (n k : Nat), drTo l k n = true ↔ ∀ i, k ≤ i → i < k + n → drow l i = true
  | 0, k => ⟨fun _ i h1 h2 => by omega, fun _ => rfl⟩
  | n + 1, k => by
    rw [drTo, Bool.and_eq_true, drTo_iff n (k + 1)]
    constructor
    · rintro ⟨h1, h2⟩ i a b
      by_cases e : i = k
      · rw [e]; exact h1
      · exact h2 i (by omega) (by omega)
    · exact fun h => ⟨h k (Nat.le_refl _) (by omega), fun i a b => h i (by omega) (by omega)⟩
theorem dr_is {l : List Dot} (h : dRightF l = true) : l.Pairwise ltD ∧ (∀ d ∈ l, dotF d = true) ∧ l.length ≤ 2000 := by
  unfold dRightF at h
  rw [Bool.and_eq_true, decide_eq_true_eq] at h
  have h1 := (drTo_iff l.length 0).1 h.1
  have hd : ∀ d ∈ l, dotF d = true := fun d hd => by
    obtain ⟨i, hi, e⟩ := List.getElem_of_mem hd
    have := h1 i (Nat.zero_le _) (by omega)
    unfold drow at this
    rw [Bool.and_eq_true, getD_at hi, e] at this
    exact this.1
  have ha : ∀ i, (hi : i + 1 < l.length) → ltD l[i] l[i + 1] := fun i hi => by
    have := h1 (i + 1) (Nat.zero_le _) (by omega)
    unfold drow at this
    rw [Bool.and_eq_true, Bool.or_eq_true, decide_eq_true_eq, decide_eq_true_eq] at this
    rcases this.2 with q | q
    · omega
    · rw [show i + 1 - 1 = i by omega, getD_at hi, getD_at (show i < l.length by omega)] at q
      exact cmpD_lt.1 q
  refine ⟨List.pairwise_iff_getElem.2 ?_, hd, h.2⟩
  intro i j hi hj hij
  obtain ⟨n, rfl⟩ : ∃ n, j = i + 1 + n := ⟨j - (i + 1), by omega⟩
  clear hij
  induction n with
  | zero => exact ha i hj
  | succ n ih => exact ltD_tr _ _ _ (ih (by omega)) (ha (i + 1 + n) hj)
theorem span_le {l : List Dot} {n : Int} {B : Int} (hB : 0 ≤ B) : ∀ i, (∀ j, j < i → (l.getD j default).1 = n → (l.getD j default).2 ≤ B) → getF (spanTo l i) n ≤ B
  | 0, _ => by
    rw [spanTo]; unfold getF
    split
    · rw [zero_get]; exact hB
    · exact hB
  | i + 1, h => by
    have ih := span_le hB i fun j hj => h j (by omega)
    have hi := h i (by omega)
    rw [spanTo]
    split
    · rename_i hd
      have h1 := of_decide_eq_true hd
      rw [getF_with (spanTo_len l i) (decide_eq_true ⟨h1.1, h1.2.1⟩)]
      split
      · rename_i e
        split
        · exact hi e.symm
        · exact ih
      · exact ih
    · exact ih
theorem span_mono {l : List Dot} {n : Int} (i : Nat) : getF (spanTo l i) n ≤ getF (spanTo l (i + 1)) n := by
  rw [spanTo]
  split
  · rename_i hd
    have h1 := of_decide_eq_true hd
    rw [getF_with (spanTo_len l i) (decide_eq_true ⟨h1.1, h1.2.1⟩)]
    split
    · split
      · omega
      · exact Int.le_refl _
    · exact Int.le_refl _
  · exact Int.le_refl _
theorem span_ge {l : List Dot} {j : Nat} (hd : dotF (l.getD j default) = true) : ∀ i, j < i → (l.getD j default).2 ≤ getF (spanTo l i) (l.getD j default).1
  | i + 1, h => by
    by_cases e : j = i
    · subst e
      have h1 := of_decide_eq_true hd
      rw [spanTo, if_pos hd, getF_with (spanTo_len l j) (decide_eq_true ⟨h1.1, h1.2.1⟩), if_pos rfl]
      split <;> omega
    · exact Int.le_trans (span_ge hd i (by omega)) (span_mono i)
/-- the dot ahead is there, too -/
def gapF (l : List Dot) (d : Dot) : Bool := decide (0 < d.2 - 1) && !decide ((d.1, d.2 - 1) ∈ l)
theorem whole_is {l : List Dot} (hb : ∀ d ∈ l, d.2 < 18446744073709551616) : wholeF l = (dRightF l && l.all fun d => !gapF l d) := by
  rw [Bool.eq_iff_iff]
  constructor
  · intro h
    have hr : dRightF l = true := by unfold wholeF at h; rw [Bool.and_eq_true] at h; exact h.2
    rw [hr, Bool.true_and, List.all_eq_true]
    intro d hd
    obtain ⟨i, hi, e⟩ := List.getElem_of_mem hd
    have hw : wOk l i := by
      unfold wholeF at h
      rw [Bool.and_eq_true] at h
      exact (wTo_iff l.length 0).1 h.1 i (Nat.zero_le _) (by omega)
    obtain ⟨h1, h2⟩ := span_whole h i (by omega)
    obtain ⟨k1, k2, k3⟩ := wok_new hw
    have e' : l.getD i default = d := by rw [getD_at hi, e]
    rw [e'] at k1 k2 k3
    have q2 : d.2 = getF (spanTo l i) d.1 + 1 := by
      have := congrArg Prod.snd k3
      exact this
    unfold gapF
    by_cases hz : 0 < d.2 - 1
    · have : hasF (spanTo l i) (d.1, d.2 - 1) = true := by
        unfold hasF dotF
        have n1 := of_decide_eq_true k1
        rw [decide_eq_true (show 1 ≤ d.1 ∧ d.1 ≤ 8 ∧ 0 < d.2 - 1 from ⟨n1.1, n1.2, hz⟩), Bool.true_and]
        exact decide_eq_true (show d.2 - 1 ≤ getF (spanTo l i) d.1 by omega)
      have hm := (h2 _).1 this
      rw [decide_eq_true (List.mem_of_mem_take hm)]
      simp
    · rw [decide_eq_false hz]; rfl
  · intro h
    rw [Bool.and_eq_true, List.all_eq_true] at h
    obtain ⟨hr, hg⟩ := h
    unfold wholeF
    rw [hr, Bool.and_true, wTo_iff]
    intro i _ hi
    obtain ⟨hup, hdot, _⟩ := dr_is hr
    have hil : i < l.length := by omega
    have em : l.getD i default = l[i] := getD_at hil
    have hm : l[i] ∈ l := List.getElem_mem hil
    have hdi := hdot _ hm
    have hgi := hg _ hm
    have hbi := hb _ hm
    have n1 := of_decide_eq_true hdi
    have up : ∀ j, j < i → ltD (l.getD j default) l[i] := fun j hj => by
      rw [getD_at (show j < l.length by omega)]
      exact List.pairwise_iff_getElem.1 hup j i (by omega) hil hj
    have g1 : getF (spanTo l i) l[i].1 ≤ l[i].2 - 1 := span_le (by omega) i fun j hj e => by
      have := up j hj
      unfold ltD at this
      omega
    have g2 : l[i].2 - 1 ≤ getF (spanTo l i) l[i].1 := by
      unfold gapF at hgi
      by_cases hz : 0 < l[i].2 - 1
      · rw [decide_eq_true hz, Bool.true_and, Bool.not_not, decide_eq_true_eq] at hgi
        obtain ⟨j, hj, ej⟩ := List.getElem_of_mem hgi
        have ej' : l.getD j default = (l[i].1, l[i].2 - 1) := by rw [getD_at hj, ej]
        have hji : j < i := by
          rcases Nat.lt_trichotomy j i with q | q | q
          · exact q
          · subst q; rw [em] at ej'; have := congrArg Prod.snd ej'; simp only at this; omega
          · have := List.pairwise_iff_getElem.1 hup i j hil hj q
            rw [ej] at this
            unfold ltD at this
            simp only at this
            omega
        have := span_ge (l := l) (j := j) (by rw [ej']; exact decide_eq_true ⟨n1.1, n1.2.1, hz⟩) i hji
        rw [ej'] at this
        exact this
      · have := span_pos l i l[i].1
        omega
    unfold wOk nextF
    rw [em, if_neg (by rw [show nodeF l[i].1 = true from decide_eq_true ⟨n1.1, n1.2.1⟩]; simp), if_neg (by omega)]
    rw [show getF (spanTo l i) l[i].1 + 1 = l[i].2 by omega]
end Go.Proofs.YtgiekdhipbikoaaGreat.Ca
namespace Go.Proofs.YtgiekdhipbikoaaGreat.Ca
open Go Go.RowKit Go.Aw Go.Aw.Cart Go.Aw.Ord Go.Sort
set_option linter.unusedVariables false
set_option linter.unusedSimpArgs false
set_option maxRecDepth 8000
set_option maxHeartbeats 4000000
/-- an add or a set -/
def addsE (x : Evt) : Bool := decide (x.1 = 1 ∨ x.1 = 2)
abbrev Evt.dot (x : Evt) : Dot := x.2.2.2.1
abbrev Evt.off (x : Evt) : List Dot := x.2.2.2.2
/-- an event that may be -/
def evR (x : Evt) : Bool := (dRightF (Evt.off x) && !decide (Evt.dot x ∈ Evt.off x)) && (!(decide (x.1 = 1) && decide (0 < (Evt.off x).length)) && (if addsE x = true then mayF (x.1, x.2.1, x.2.2.1) && dotF (Evt.dot x) else decide ((x.1 = 3 ∨ x.1 = 4) ∧ x.2.1 = 0 ∧ x.2.2.1 = 0 ∧ Evt.dot x = (0, 0))))
def mkE (x : Evt) : Bool := addsE x && evR x
def mDots (l : List Evt) : List Dot := G.dotsOf ((l.filter mkE).map Evt.dot)
def mOff (l : List Evt) : List Dot := l.flatMap Evt.off
def clX (x y : Evt) : Bool := addsE y && (decide (Evt.dot x = Evt.dot y) && !decide (x = y))
def mClash (l : List Evt) : Bool := decide (∃ i, i < l.length ∧ (addsE (l.getD i default) && (l.take i).any (clX (l.getD i default))) = true)
def mWhole (l : List Evt) : Bool := !(l.any fun x => !evR x) && (!mClash l && (wholeF (mDots l) && !((mOff l).any fun d => !decide (d ∈ mDots l))))
/-- each once -/
def uTo (l : List Evt) : Nat → List Evt
  | 0 => []
  | i + 1 => if l.getD i default ∈ uTo l i then uTo l i else uTo l i ++ [l.getD i default]
def mUnion (a b : List Evt) : List Evt := uTo (a ++ b) (a ++ b).length
def entOf (x : Evt) : Ent := (x.2.1, (Evt.dot x).1, (Evt.dot x).2, x.2.2.1)
def inF (l : List Evt) (x : Evt) : Bool := addsE x && !decide (Evt.dot x ∈ mOff l)
def outE (l : List Evt) : List Ent := ((mUnion l []).filter (inF l)).map entOf
def mCart (l : List Evt) : Crt × Int :=
  if mWhole l = false then ((zeroV, []), 7) else
  if 400 < (outE l).length then ((zeroV, []), 5) else
  ((spanTo (mDots l) (mDots l).length, sortE (outE l)), 0)
theorem uTo_len {l : List Evt} : ∀ i, (uTo l i).length ≤ i
  | 0 => Nat.le_refl _
  | i + 1 => by
    have := uTo_len (l := l) i
    rw [uTo]; split
    · omega
    · rw [List.length_append, List.length_singleton]; omega
theorem uTo_is {l : List Evt} : ∀ i, i ≤ l.length → (uTo l i).Nodup ∧ ∀ x, x ∈ uTo l i ↔ x ∈ l.take i
  | 0, _ => ⟨List.nodup_nil, fun x => by rw [uTo, List.take_zero]⟩
  | i + 1, h => by
    obtain ⟨h1, h2⟩ := uTo_is (l := l) i (by omega)
    rw [uTo, take_get' (by omega)]
    split
    · rename_i hm
      refine ⟨h1, fun x => ?_⟩
      rw [h2, List.mem_append, List.mem_singleton]
      exact ⟨.inl, fun k => k.elim id fun e => by rw [e]; exact (h2 _).1 hm⟩
    · rename_i hm
      refine ⟨List.nodup_append.2 ⟨h1, List.nodup_cons.2 ⟨by simp, List.nodup_nil⟩, fun x hx y hy e => ?_⟩, fun x => ?_⟩
      · rw [List.mem_singleton.1 hy] at e; rw [e] at hx; exact hm hx
      · rw [List.mem_append, List.mem_append, h2]
theorem union_nodup (a b : List Evt) : (mUnion a b).Nodup := (uTo_is _ (Nat.le_refl _)).1
theorem union_mem {a b : List Evt} {x : Evt} : x ∈ mUnion a b ↔ x ∈ a ∨ x ∈ b := by
  unfold mUnion
  rw [(uTo_is _ (Nat.le_refl _)).2, List.take_length, List.mem_append]
theorem union_len (a b : List Evt) : (mUnion a b).length ≤ a.length + b.length := by
  have := uTo_len (l := a ++ b) (a ++ b).length
  unfold mUnion; rw [List.length_append] at this ⊢; exact this
theorem off_in {l : List Evt} {d : Dot} : d ∈ mOff l ↔ ∃ x ∈ l, d ∈ Evt.off x := List.mem_flatMap
theorem mk_dot {x : Evt} (h : mkE x = true) : dotF (Evt.dot x) = true := by
  unfold mkE at h
  rw [Bool.and_eq_true] at h
  have h2 := h.2
  unfold evR at h2
  rw [if_pos h.1, Bool.and_eq_true, Bool.and_eq_true, Bool.and_eq_true, Bool.and_eq_true] at h2
  exact h2.2.2.2
theorem mk_may {x : Evt} (h : mkE x = true) : mayF (x.1, x.2.1, x.2.2.1) = true := by
  unfold mkE at h
  rw [Bool.and_eq_true] at h
  have h2 := h.2
  unfold evR at h2
  rw [if_pos h.1, Bool.and_eq_true, Bool.and_eq_true, Bool.and_eq_true, Bool.and_eq_true] at h2
  exact h2.2.2.1
theorem dots_in {l : List Evt} (hl : l.length ≤ 2000) {d : Dot} : d ∈ mDots l ↔ ∃ x ∈ l, mkE x = true ∧ Evt.dot x = d := by
  have h2 : ((l.filter mkE).map Evt.dot).length ≤ 2000 := by rw [List.length_map]; exact Nat.le_trans (List.length_filter_le _ _) hl
  unfold mDots
  rw [dof_is h2, setF_mem, List.mem_map]
  constructor
  · rintro ⟨⟨x, hx, e⟩, _⟩
    obtain ⟨h3, h4⟩ := List.mem_filter.1 hx
    exact ⟨x, h3, h4, e⟩
  · rintro ⟨x, h3, h4, e⟩
    exact ⟨⟨x, List.mem_filter.2 ⟨h3, h4⟩, e⟩, by rw [← e]; exact mk_dot h4⟩
theorem dots_ext {l m : List Evt} (hl : l.length ≤ 2000) (hm : m.length ≤ 2000) (h : ∀ x, x ∈ l ↔ x ∈ m) : mDots l = mDots m := by
  have k : ∀ n : List Evt, n.length ≤ 2000 → mDots n = setF ((n.filter mkE).map Evt.dot) := fun n hn => by
    unfold mDots; exact dof_is (by rw [List.length_map]; exact Nat.le_trans (List.length_filter_le _ _) hn)
  rw [k l hl, k m hm]
  refine setF_ext fun d _ => ?_
  rw [List.mem_map, List.mem_map]
  constructor <;> rintro ⟨x, hx, e⟩ <;> obtain ⟨h3, h4⟩ := List.mem_filter.1 hx
  · exact ⟨x, List.mem_filter.2 ⟨(h x).1 h3, h4⟩, e⟩
  · exact ⟨x, List.mem_filter.2 ⟨(h x).2 h3, h4⟩, e⟩
/-- a whole list -/
structure MW (l : List Evt) : Prop where
  ev : ∀ x ∈ l, evR x = true
  one : ∀ x ∈ l, ∀ y ∈ l, addsE x = true → addsE y = true → Evt.dot x = Evt.dot y → x = y
  whole : wholeF (mDots l) = true
  off : ∀ d ∈ mOff l, d ∈ mDots l
theorem mWhole_iff {l : List Evt} : mWhole l = true ↔ MW l := by
  unfold mWhole mClash
  simp only [Bool.and_eq_true, Bool.not_eq_true', decide_eq_false_iff_not, List.any_eq_false, Bool.not_eq_true]
  constructor
  · rintro ⟨h1, h2, h3, h4⟩
    refine ⟨fun x hx => by have := h1 x hx; simpa using this, ?_, h3, fun d hd => by have := h4 d hd; simpa using this⟩
    have key : ∀ i j, j < i → i < l.length → addsE (l.getD i default) = true → addsE (l.getD j default) = true → Evt.dot (l.getD i default) = Evt.dot (l.getD j default) → l.getD i default = l.getD j default := by
      intro i j hj hi a1 a2 e
      by_cases q : l.getD i default = l.getD j default
      · exact q
      · refine absurd ⟨i, hi, ?_⟩ h2
        rw [List.any_eq_true]
        refine ⟨a1, l.getD j default, ?_, ?_⟩
        · rw [getD_at (show j < l.length by omega)]
          exact List.mem_take_iff_getElem.2 ⟨j, by omega, rfl⟩
        · unfold clX
          rw [a2, decide_eq_true e, decide_eq_false q]; rfl
    intro x hx y hy a1 a2 e
    obtain ⟨i, hi, rfl⟩ := getD_mem hx
    obtain ⟨j, hj, rfl⟩ := getD_mem hy
    rcases Nat.lt_trichotomy j i with q | q | q
    · exact key i j q hi a1 a2 e
    · rw [q]
    · exact (key j i q hj a2 a1 e.symm).symm
  · intro h
    refine ⟨fun x hx => by simp [h.ev x hx], ?_, h.whole, fun d hd => by simp [h.off d hd]⟩
    rintro ⟨i, hi, hc⟩
    rw [List.any_eq_true] at hc
    obtain ⟨a1, y, hy, hc⟩ := hc
    unfold clX at hc
    simp only [Bool.and_eq_true, decide_eq_true_eq, Bool.not_eq_true', decide_eq_false_iff_not] at hc
    exact hc.2.2 (h.one _ (by rw [getD_at hi]; exact List.getElem_mem _) y (List.mem_of_mem_take hy) a1 hc.1 hc.2.1)
theorem off_ext {l m : List Evt} (h : ∀ x, x ∈ l ↔ x ∈ m) (d : Dot) : d ∈ mOff l ↔ d ∈ mOff m := by
  rw [off_in, off_in]
  exact ⟨fun ⟨x, a, b⟩ => ⟨x, (h x).1 a, b⟩, fun ⟨x, a, b⟩ => ⟨x, (h x).2 a, b⟩⟩
theorem MW.ext {l m : List Evt} (hl : l.length ≤ 2000) (hm : m.length ≤ 2000) (h : ∀ x, x ∈ l ↔ x ∈ m) (w : MW l) : MW m where
  ev x hx := w.ev x ((h x).2 hx)
  one x hx y hy := w.one x ((h x).2 hx) y ((h y).2 hy)
  whole := by rw [← dots_ext hl hm h]; exact w.whole
  off d hd := by rw [← dots_ext hl hm h]; exact w.off d ((off_ext h d).2 hd)
theorem MW.mk' {l : List Evt} (w : MW l) {x : Evt} (hx : x ∈ l) (ha : addsE x = true) : mkE x = true := by unfold mkE; rw [ha, w.ev x hx]; rfl
theorem MW.dot {l : List Evt} (w : MW l) (hl : l.length ≤ 2000) {d : Dot} : d ∈ mDots l ↔ ∃ x ∈ l, addsE x = true ∧ Evt.dot x = d := by
  rw [dots_in hl]
  constructor
  · rintro ⟨x, h1, h2, h3⟩; unfold mkE at h2; rw [Bool.and_eq_true] at h2; exact ⟨x, h1, h2.1, h3⟩
  · rintro ⟨x, h1, h2, h3⟩; exact ⟨x, h1, w.mk' h1 h2, h3⟩
theorem out_mem {l : List Evt} {e : Ent} : e ∈ outE l ↔ ∃ x ∈ l, (addsE x = true ∧ Evt.dot x ∉ mOff l) ∧ entOf x = e := by
  unfold outE
  rw [List.mem_map]
  constructor
  · rintro ⟨x, hx, e⟩
    obtain ⟨h1, h2⟩ := List.mem_filter.1 hx
    unfold inF at h2
    simp only [Bool.and_eq_true, Bool.not_eq_true', decide_eq_false_iff_not] at h2
    exact ⟨x, (union_mem.1 h1).elim id (fun k => by cases k), h2, e⟩
  · rintro ⟨x, h1, h2, e⟩
    refine ⟨x, List.mem_filter.2 ⟨union_mem.2 (.inl h1), ?_⟩, e⟩
    unfold inF
    simp only [Bool.and_eq_true, Bool.not_eq_true', decide_eq_false_iff_not]
    exact h2
theorem ent_dot (x : Evt) : dotE (entOf x) = Evt.dot x := rfl
theorem MW.out_nodup {l : List Evt} (w : MW l) : (outE l).Nodup := by
  unfold outE
  refine (nodup_map ((union_nodup l []).sublist List.filter_sublist)).2 fun x hx y hy e => ?_
  have m : ∀ z, z ∈ (mUnion l []).filter (inF l) → z ∈ l ∧ addsE z = true := fun z hz => by
    obtain ⟨h1, h2⟩ := List.mem_filter.1 hz
    unfold inF at h2
    rw [Bool.and_eq_true] at h2
    exact ⟨(union_mem.1 h1).elim id (fun k => by cases k), h2.1⟩
  have ed := congrArg dotE e
  rw [ent_dot, ent_dot] at ed
  exact w.one x (m x hx).1 y (m y hy).1 (m x hx).2 (m y hy).2 ed
theorem out_len (l : List Evt) : (outE l).length ≤ l.length := by
  unfold outE
  rw [List.length_map]
  refine Nat.le_trans (List.length_filter_le _ _) ?_
  have := union_len l []
  rw [List.length_nil, Nat.add_zero] at this; exact this
/-- the cart of a whole list -/
theorem cart_of {l : List Evt} (w : MW l) (h : (outE l).length ≤ 400) : mCart l = ((spanTo (mDots l) (mDots l).length, sortE (outE l)), 0) := by
  unfold mCart
  rw [mWhole_iff.2 w, if_neg (by simp), if_neg (by omega)]
theorem cart_is {l : List Evt} (h : (mCart l).2 = 0) : MW l ∧ (outE l).length ≤ 400 := by
  unfold mCart at h
  by_cases h1 : mWhole l = false
  · rw [if_pos h1] at h; cases h
  · rw [if_neg h1] at h
    by_cases h2 : 400 < (outE l).length
    · rw [if_pos h2] at h; cases h
    · exact ⟨mWhole_iff.1 (bT h1), by omega⟩
/-- it does not hang on order, or how often -/
theorem cart_ext {l m : List Evt} (hl : l.length ≤ 2000) (hm : m.length ≤ 2000) (h : ∀ x, x ∈ l ↔ x ∈ m) (w : MW l) (h4 : (outE l).length ≤ 400) : mCart m = mCart l := by
  have w' := w.ext hl hm h
  have hp : (outE m).Perm (outE l) := (List.perm_ext_iff_of_nodup w'.out_nodup w.out_nodup).2 fun e => by
    rw [out_mem, out_mem]
    constructor <;> rintro ⟨x, a, ⟨b, c⟩, d⟩
    · exact ⟨x, (h x).2 a, ⟨b, fun k => c ((off_ext h _).1 k)⟩, d⟩
    · exact ⟨x, (h x).1 a, ⟨b, fun k => c ((off_ext h _).2 k)⟩, d⟩
  rw [cart_of w h4, cart_of w' (by rw [hp.length_eq]; exact h4), dots_ext hl hm h, sortE_of hp]
/-- what a whole list's cart covers -/
theorem MW.has {l : List Evt} (w : MW l) (d : Dot) : hasF (spanTo (mDots l) (mDots l).length) d = decide (d ∈ mDots l) := (whole_law w.whole).1 d
theorem MW.okc {l : List Evt} (w : MW l) (hl : l.length ≤ 2000) (h : (outE l).length ≤ 400) : Ok (spanTo (mDots l) (mDots l).length) (sortE (outE l)) where
  few := by rw [sortE_len]; exact h
  up := sortE_sup w.out_nodup
  ent e he := by
    rw [sortE_mem] at he
    obtain ⟨x, h1, ⟨h2, h3⟩, rfl⟩ := out_mem.1 he
    have hm := of_decide_eq_true (mk_may (w.mk' h1 h2))
    have ha := of_decide_eq_true h2
    simp only at hm
    exact decide_eq_true (by simp only [entOf]; omega)
  has e he := by
    rw [sortE_mem] at he
    obtain ⟨x, h1, ⟨h2, h3⟩, rfl⟩ := out_mem.1 he
    rw [w.has, decide_eq_true_eq, w.dot hl]
    exact ⟨x, h1, h2, rfl⟩
  one e he f hf hd := by
    rw [sortE_mem] at he hf
    obtain ⟨x, h1, ⟨h2, h3⟩, rfl⟩ := out_mem.1 he
    obtain ⟨y, k1, ⟨k2, k3⟩, rfl⟩ := out_mem.1 hf
    rw [w.one x h1 y k1 h2 k2 hd]
/-! vectors that cover the same are one -/
theorem vec_ext {v u : List Int} (hv : v.length = 8) (hu : u.length = 8) (pv : ∀ n ∈ v, 0 ≤ n) (pu : ∀ n ∈ u, 0 ≤ n) (h : ∀ d, hasF v d = hasF u d) : v = u := by
  refine maxV_ext hv hu fun i hi => ?_
  have gv : getF v ((i : Int) + 1) = v.getD i default := by unfold getF; rw [if_pos (by omega)]; congr 1; omega
  have gu : getF u ((i : Int) + 1) = u.getD i default := by unfold getF; rw [if_pos (by omega)]; congr 1; omega
  have av : 0 ≤ v.getD i default := by rw [getD_at (by omega)]; exact pv _ (List.getElem_mem _)
  have au : 0 ≤ u.getD i default := by rw [getD_at (by omega)]; exact pu _ (List.getElem_mem _)
  have k : ∀ n : Int, 0 < n → (n ≤ v.getD i default ↔ n ≤ u.getD i default) := fun n hn => by
    have := h ((i : Int) + 1, n)
    unfold hasF at this
    rw [show dotF ((i : Int) + 1, n) = true from decide_eq_true ⟨by simp only; omega, by simp only; omega, hn⟩, Bool.true_and, Bool.true_and] at this
    simp only [gv, gu] at this
    exact decide_eq_decide.1 this
  rcases Int.lt_trichotomy (v.getD i default) (u.getD i default) with q | q | q
  · have := (k (u.getD i default) (by omega)).2 (Int.le_refl _); omega
  · exact q
  · have := (k (v.getD i default) (by omega)).1 (Int.le_refl _); omega
theorem max_nn {a b : List Int} (ha : ∀ n ∈ a, 0 ≤ n) (hb : ∀ n ∈ b, 0 ≤ n) : ∀ n ∈ maxV a b, 0 ≤ n := by
  intro n hn
  unfold maxV at hn
  obtain ⟨i, hi, rfl⟩ := List.getElem_of_mem hn
  rw [List.getElem_zipWith]
  split
  · exact hb _ (List.getElem_mem _)
  · exact ha _ (List.getElem_mem _)
/-- both lists', of which no two events clash -/
structure UN (a b u : List Evt) : Prop where
  wa : MW a
  wb : MW b
  wu : MW u
  la : a.length ≤ 400
  lb : b.length ≤ 400
  lu : u.length ≤ 2000
  mem : ∀ x, x ∈ u ↔ x ∈ a ∨ x ∈ b
section
variable {a b u : List Evt} (h : UN a b u)
include h
theorem UN.dots (d : Dot) : d ∈ mDots u ↔ d ∈ mDots a ∨ d ∈ mDots b := by
  have := h.la; have := h.lb
  rw [h.wu.dot h.lu, h.wa.dot (by omega), h.wb.dot (by omega)]
  constructor
  · rintro ⟨x, hx, r⟩; exact ((h.mem x).1 hx).elim (fun k => .inl ⟨x, k, r⟩) fun k => .inr ⟨x, k, r⟩
  · rintro (⟨x, hx, r⟩ | ⟨x, hx, r⟩)
    · exact ⟨x, (h.mem x).2 (.inl hx), r⟩
    · exact ⟨x, (h.mem x).2 (.inr hx), r⟩
theorem UN.offs (d : Dot) : d ∈ mOff u ↔ d ∈ mOff a ∨ d ∈ mOff b := by
  rw [off_in, off_in, off_in]
  constructor
  · rintro ⟨x, hx, r⟩; exact ((h.mem x).1 hx).elim (fun k => .inl ⟨x, k, r⟩) fun k => .inr ⟨x, k, r⟩
  · rintro (⟨x, hx, r⟩ | ⟨x, hx, r⟩)
    · exact ⟨x, (h.mem x).2 (.inl hx), r⟩
    · exact ⟨x, (h.mem x).2 (.inr hx), r⟩
theorem UN.outs (e : Ent) : e ∈ outE u ↔ (e ∈ outE a ∧ (e ∈ outE b ∨ dotE e ∉ mDots b)) ∨ (e ∈ outE b ∧ dotE e ∉ mDots a) := by
  have la := h.la; have lb := h.lb
  constructor
  · intro he
    obtain ⟨x, hx, ⟨h2, h3⟩, rfl⟩ := out_mem.1 he
    have h3' : Evt.dot x ∉ mOff a ∧ Evt.dot x ∉ mOff b := ⟨fun k => h3 ((h.offs _).2 (.inl k)), fun k => h3 ((h.offs _).2 (.inr k))⟩
    rcases (h.mem x).1 hx with k | k
    · left
      refine ⟨out_mem.2 ⟨x, k, ⟨h2, h3'.1⟩, rfl⟩, ?_⟩
      by_cases q : dotE (entOf x) ∈ mDots b
      · obtain ⟨y, hy, a2, e⟩ := (h.wb.dot (by omega)).1 q
        have := h.wu.one y ((h.mem y).2 (.inr hy)) x hx a2 h2 e
        subst this
        exact .inl (out_mem.2 ⟨y, hy, ⟨h2, h3'.2⟩, rfl⟩)
      · exact .inr q
    · by_cases q : dotE (entOf x) ∈ mDots a
      · obtain ⟨y, hy, a2, e⟩ := (h.wa.dot (by omega)).1 q
        have := h.wu.one y ((h.mem y).2 (.inl hy)) x hx a2 h2 e
        subst this
        exact .inl ⟨out_mem.2 ⟨y, hy, ⟨h2, h3'.1⟩, rfl⟩, .inl (out_mem.2 ⟨y, k, ⟨h2, h3'.2⟩, rfl⟩)⟩
      · exact .inr ⟨out_mem.2 ⟨x, k, ⟨h2, h3'.2⟩, rfl⟩, q⟩
  · rintro (⟨h1, h2⟩ | ⟨h1, h2⟩)
    · obtain ⟨x, hx, ⟨k2, k3⟩, rfl⟩ := out_mem.1 h1
      refine out_mem.2 ⟨x, (h.mem x).2 (.inl hx), ⟨k2, fun k => ?_⟩, rfl⟩
      rcases (h.offs _).1 k with q | q
      · exact k3 q
      · rcases h2 with h2 | h2
        · obtain ⟨y, hy, ⟨j2, j3⟩, e⟩ := out_mem.1 h2
          have := congrArg dotE e
          rw [ent_dot, ent_dot] at this
          rw [this] at j3; exact j3 q
        · exact h2 (h.wb.off _ q)
    · obtain ⟨x, hx, ⟨k2, k3⟩, rfl⟩ := out_mem.1 h1
      refine out_mem.2 ⟨x, (h.mem x).2 (.inr hx), ⟨k2, fun k => ?_⟩, rfl⟩
      rcases (h.offs _).1 k with q | q
      · exact h2 (h.wa.off _ q)
      · exact k3 q
/-- the union's cart is the join of both -/
theorem UN.join (h4 : (outE u).length ≤ 400) : twoF (mCart a).1 (mCart b).1 = ((mCart u).1, 0) := by
  have la := h.la; have lb := h.lb
  have oa := out_len a; have ob := out_len b
  have ka := h.wa.okc (by omega) (by omega)
  have kb := h.wb.okc (by omega) (by omega)
  rw [cart_of h.wa (by omega), cart_of h.wb (by omega), cart_of h.wu h4]
  have hm : ∀ e, e ∈ bothF (spanTo (mDots a) (mDots a).length, sortE (outE a)) (spanTo (mDots b) (mDots b).length, sortE (outE b)) ↔ e ∈ outE u := fun e => by
    rw [both_mem, h.outs, sortE_mem, sortE_mem, h.wa.has, h.wb.has, decide_eq_false_iff_not, decide_eq_false_iff_not]
  have hp := (List.perm_ext_iff_of_nodup (bothF_nodup (a := (spanTo (mDots a) (mDots a).length, sortE (outE a))) (b := (spanTo (mDots b) (mDots b).length, sortE (outE b))) ka kb) h.wu.out_nodup).2 hm
  have t : Two (spanTo (mDots a) (mDots a).length, sortE (outE a)) (spanTo (mDots b) (mDots b).length, sortE (outE b)) := {
    la := spanTo_len _ _
    lb := spanTo_len _ _
    oa := ka
    ob := kb
    nc := fun e he f hf hd => by
      rw [sortE_mem] at he hf
      obtain ⟨x, h1, ⟨h2, h3⟩, rfl⟩ := out_mem.1 he
      obtain ⟨y, k1, ⟨k2, k3⟩, rfl⟩ := out_mem.1 hf
      rw [h.wu.one x ((h.mem x).2 (.inl h1)) y ((h.mem y).2 (.inr k1)) h2 k2 hd]
    few := by rw [hp.length_eq]; exact h4 }
  rw [t.is, sortE_of hp]
  refine congrArg (fun v => ((v, sortE (outE u)), (0 : Int))) ?_
  refine vec_ext (maxV_len (spanTo_len _ _) (spanTo_len _ _)) (spanTo_len _ _) (max_nn (span_nn _ _) (span_nn _ _)) (span_nn _ _) fun d => ?_
  rw [has_max (spanTo_len _ _) (spanTo_len _ _), h.wa.has, h.wb.has, h.wu.has, Bool.eq_iff_iff, Bool.or_eq_true, decide_eq_true_eq, decide_eq_true_eq, decide_eq_true_eq, h.dots]
end
end Go.Proofs.YtgiekdhipbikoaaGreat.Ca
