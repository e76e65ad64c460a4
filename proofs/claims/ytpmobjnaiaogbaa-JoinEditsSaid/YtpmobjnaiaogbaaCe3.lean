/- edits and joins in plain Lean: what covers what -/
import Derived.Test.YtpmobjnaiaogbaaCe2
import Derived.Test.YtpmobjnaiaogbaaCj4
namespace Go.Proofs.Ytpmobjnaiaogbaa.Ca
open Go Go.RowKit Go.Aw Go.Aw.Cart Go.Aw.Ord Go.Sort
set_option linter.unusedVariables false
set_option linter.unusedSimpArgs false
theorem getF_le {a b : List Int} (h : ∀ i, i < 8 → a.getD i default ≤ b.getD i default) (n : Int) : getF a n ≤ getF b n := by
  unfold getF
  by_cases k : 1 ≤ n ∧ n ≤ 8
  · rw [if_pos k, if_pos k]; exact h _ (by omega)
  · rw [if_neg k, if_neg k]; exact Int.le_refl _
theorem has_le {a b : List Int} (h : ∀ i, i < 8 → a.getD i default ≤ b.getD i default) {d : Dot} (hd : hasF a d = true) : hasF b d = true := by
  have := getF_le h d.1
  unfold hasF at hd ⊢
  rw [Bool.and_eq_true, decide_eq_true_eq] at hd ⊢
  exact ⟨hd.1, by omega⟩
/-- the second cart covers the first one -/
structure Over (c d : Crt) : Prop where
  lc : c.1.length = 8
  ld : d.1.length = 8
  oc : Ok c.1 c.2
  od : Ok d.1 d.2
  le : ∀ i, i < 8 → c.1.getD i default ≤ d.1.getD i default
  sub : ∀ e ∈ d.2, e ∈ c.2 ∨ hasF c.1 (dotE e) = false
theorem Over.nc {c d : Crt} (h : Over c d) : ∀ e ∈ c.2, ∀ f ∈ d.2, dotE e = dotE f → e = f := fun e he f hf q => by
  rcases h.sub f hf with k | k
  · exact h.oc.one e he f k q
  · rw [← q, h.oc.has e he] at k; cases k
theorem Over.in' {c d : Crt} (h : Over c d) {e : Ent} : (e ∈ c.2 ∧ (e ∈ d.2 ∨ hasF d.1 (dotE e) = false)) ∨ (e ∈ d.2 ∧ hasF c.1 (dotE e) = false) ↔ e ∈ d.2 := by
  constructor
  · rintro (⟨h1, h2 | h2⟩ | ⟨h1, _⟩)
    · exact h2
    · rw [has_le h.le (h.oc.has e h1)] at h2; cases h2
    · exact h1
  · intro he
    rcases h.sub e he with k | k
    · exact .inl ⟨k, .inl he⟩
    · exact .inr ⟨he, k⟩
theorem Over.in2 {c d : Crt} (h : Over c d) {e : Ent} : (e ∈ d.2 ∧ (e ∈ c.2 ∨ hasF c.1 (dotE e) = false)) ∨ (e ∈ c.2 ∧ hasF d.1 (dotE e) = false) ↔ e ∈ d.2 := by
  constructor
  · rintro (⟨h1, _⟩ | ⟨h1, h2⟩)
    · exact h1
    · rw [has_le h.le (h.oc.has e h1)] at h2; cases h2
  · intro he
    exact .inl ⟨he, h.sub e he⟩
theorem Over.two {c d : Crt} (h : Over c d) : Two c d := ⟨h.lc, h.ld, h.oc, h.od, h.nc, Nat.le_trans (few_of (bothF_nodup h.oc h.od) fun e he => h.in'.1 (both_mem.1 he)) h.od.few⟩
theorem Over.two2 {c d : Crt} (h : Over c d) : Two d c := ⟨h.ld, h.lc, h.od, h.oc, fun e he f hf q => (h.nc f hf e he q.symm).symm, Nat.le_trans (few_of (bothF_nodup h.od h.oc) fun e he => h.in2.1 (both_mem.1 he)) h.od.few⟩
theorem Over.max {c d : Crt} (h : Over c d) : maxV c.1 d.1 = d.1 := by
  refine maxV_ext (maxV_len h.lc h.ld) h.ld fun i hi => ?_
  rw [maxV_get h.lc h.ld hi]
  have := h.le i hi
  split <;> omega
theorem Over.is {c d : Crt} (h : Over c d) : twoF c d = (d, 0) := by
  have e := h.two.is
  have h2 : (twoF c d).1.2 = d.2 := ent_ext h.two.ok.up h.od.up fun e => by rw [h.two.mem]; exact h.in'
  have h1 : (twoF c d).1.1 = d.1 := by rw [h.two.vec, h.max]
  exact Prod.ext (Prod.ext h1 h2) (by rw [e])
theorem Over.is2 {c d : Crt} (h : Over c d) : twoF d c = (d, 0) := by
  have e := h.two2.is
  have h2 : (twoF d c).1.2 = d.2 := ent_ext h.two2.ok.up h.od.up fun e => by rw [h.two2.mem]; exact h.in2
  have h1 : (twoF d c).1.1 = d.1 := by rw [h.two2.vec, maxV_comm, h.max]
  exact Prod.ext (Prod.ext h1 h2) (by rw [e])
theorem Over.cov {c d : Crt} (h : Over c d) : coversF d c = true := by unfold coversF; rw [h.is2]; simp
theorem Over.trans {a b c : Crt} (h : Over a b) (k : Over b c) : Over a c := ⟨h.lc, k.ld, h.oc, k.od, fun i hi => Int.le_trans (h.le i hi) (k.le i hi), fun e he => by
  rcases k.sub e he with q | q
  · exact h.sub e q
  · refine .inr ?_
    cases r : hasF a.1 (dotE e) with
    | false => rfl
    | true => rw [has_le h.le r] at q; cases q⟩
theorem two_of {a b : Crt} (ha : a.1.length = 8) (hb : b.1.length = 8) (h : (twoF a b).2 = 0) : Two a b := by
  unfold twoF at h
  by_cases h1 : rightF a.1 a.2 = false ∨ rightF b.1 b.2 = false
  · rw [if_pos h1] at h; cases h
  · rw [if_neg h1] at h
    by_cases h2 : clashF a b = true
    · rw [if_pos h2] at h; cases h
    · rw [if_neg h2] at h
      by_cases h3 : 400 < (bothF a b).length
      · rw [if_pos h3] at h; cases h
      · exact ⟨ha, hb, ok_iff.1 (bT fun q => h1 (.inl q)), ok_iff.1 (bT fun q => h1 (.inr q)), clash_not (Bool.eq_false_iff.2 h2), by omega⟩
/-- what covers -/
theorem over_of {c d : Crt} (hc : c.1.length = 8) (hd : d.1.length = 8) (h : coversF c d = true) : Over d c := by
  unfold coversF at h
  simp only [Bool.and_eq_true, decide_eq_true_eq] at h
  obtain ⟨h1, h2, h3⟩ := h
  have t := two_of hc hd h1
  refine ⟨hd, hc, t.ob, t.oa, fun i hi => ?_, fun e he => ?_⟩
  · have := t.vec
    rw [h2] at this
    have q := congrArg (fun l => l.getD i default) this
    simp only [maxV_get hc hd hi] at q
    split at q <;> omega
  · rw [← h3, t.mem] at he
    rcases he with ⟨_, k⟩ | ⟨k, _⟩
    · exact k
    · exact .inl k
section
variable {c : Crt} {nd : Int} {o : Op3} (hc : c.1.length = 8) (hb : ∀ n ∈ c.1, 0 ≤ n ∧ n < 18446744073709551616)
include hc hb in
theorem Did.over (h : Did c nd o) : Over c (doF c nd o).1.1 := by
  refine ⟨hc, h.len8 hc, h.ok, h.okd hc hb, h.le hc, fun e he => ?_⟩
  rcases h.is with ⟨h1, h2, q⟩ | ⟨h1, h2, h3, q⟩
  · rw [q] at he; exact .inl (st_mem.1 he).1
  · rw [q] at he
    have he : e ∈ sortE (stL o c.2 ++ [newE c.1 nd o]) := he
    rw [sortE_mem, List.mem_append, List.mem_singleton] at he
    rcases he with k | rfl
    · exact .inl (st_mem.1 k).1
    · exact .inr (newD_not _ _)
include hc hb in
/-- an op turns a cart -/
theorem Did.turns (h : Did c nd o) : coversF c (doF c nd o).1.1 = false := by
  have hx := (h.over hc hb).is
  unfold coversF
  rw [hx]
  simp only [decide_true, Bool.true_and]
  rw [Bool.and_eq_false_iff, decide_eq_false_iff_not, decide_eq_false_iff_not]
  rcases h.is with ⟨h1, h2, q⟩ | ⟨h1, h2, h3, q⟩
  · right
    rw [q]
    show stL o c.2 ≠ c.2
    intro k
    obtain ⟨d, hd⟩ := List.exists_mem_of_length_pos h2
    obtain ⟨e, he, hg, _⟩ := (off_mem h.ok).1 hd
    rw [← k] at he
    rw [(st_mem.1 he).2] at hg; cases hg
  · left
    rw [q]
    show withF _ _ ≠ c.1
    intro k
    have h4 : hasF (withF c.1 (newD c.1 nd)) (newD c.1 nd) = true := by rw [with_has hc hb h.node]; simp
    rw [k, newD_not] at h4; cases h4
end
end Go.Proofs.Ytpmobjnaiaogbaa.Ca
