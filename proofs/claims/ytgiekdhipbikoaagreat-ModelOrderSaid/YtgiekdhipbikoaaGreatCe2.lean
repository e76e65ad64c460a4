/- edits in plain Lean: what an op does to a cart -/
import Derived.Test.YtgiekdhipbikoaaGreatCe1
namespace Go.Proofs.YtgiekdhipbikoaaGreat.Ca
open Go Go.RowKit Go.Aw Go.Aw.Cart Go.Aw.Ord Go.Sort
set_option linter.unusedVariables false
set_option linter.unusedSimpArgs false
abbrev Evt := Int × Int × Int × Dot × List Dot
def stL (o : Op3) (l : List Ent) : List Ent := l.filter fun e => !goneF o e
def goL (o : Op3) (l : List Ent) : List Ent := l.filter fun e => goneF o e
def offF (o : Op3) (l : List Ent) : List Dot := liveF (goL o l)
def addsF (o : Op3) : Bool := decide (o.1 = 1 ∨ o.1 = 2)
def newD (v : List Int) (nd : Int) : Dot := (nd, getF v nd + 1)
def newE (v : List Int) (nd : Int) (o : Op3) : Ent := (o.2.1, nd, getF v nd + 1, o.2.2)
def zeroE : Evt := (0, 0, 0, (0, 0), [])
/-- the cart, the event, the error -/
def doF (c : Crt) (nd : Int) (o : Op3) : (Crt × Evt) × Int :=
  if rightF c.1 c.2 = false then (((zeroV, []), zeroE), 3) else
  if mayF o = false then (((zeroV, []), zeroE), 1) else
  if nodeF nd = false then (((zeroV, []), zeroE), 11) else
  if addsF o = false then
    (if (offF o c.2).length = 0 then (((zeroV, []), zeroE), 4) else (((c.1, stL o c.2), (o.1, 0, 0, (0, 0), offF o c.2)), 0)) else
  if getF c.1 nd = 18446744073709551615 then (((zeroV, []), zeroE), 13) else
  if 40 ≤ (stL o c.2).length then (((zeroV, []), zeroE), 5) else
  (((withF c.1 (newD c.1 nd), sortE (stL o c.2 ++ [newE c.1 nd o])), (o.1, o.2.1, o.2.2, newD c.1 nd, offF o c.2)), 0)
theorem bT {b : Bool} (h : ¬ b = false) : b = true := by cases b <;> simp_all
/-- what is done: entries go, or one comes, too -/
structure Did (c : Crt) (nd : Int) (o : Op3) : Prop where
  ok : Ok c.1 c.2
  may : mayF o = true
  node : nodeF nd = true
  is : (addsF o = false ∧ 0 < (offF o c.2).length ∧ doF c nd o = (((c.1, stL o c.2), (o.1, 0, 0, (0, 0), offF o c.2)), 0)) ∨
    (addsF o = true ∧ getF c.1 nd ≠ 18446744073709551615 ∧ (stL o c.2).length < 40 ∧ doF c nd o = (((withF c.1 (newD c.1 nd), sortE (stL o c.2 ++ [newE c.1 nd o])), (o.1, o.2.1, o.2.2, newD c.1 nd, offF o c.2)), 0))
theorem did {c : Crt} {nd : Int} {o : Op3} (h : (doF c nd o).2 = 0) : Did c nd o := by
  have e : doF c nd o = doF c nd o := rfl
  conv at e => rhs; unfold doF
  rw [e] at h
  by_cases h1 : rightF c.1 c.2 = false
  · rw [if_pos h1] at h; cases h
  rw [if_neg h1] at h e
  by_cases h2 : mayF o = false
  · rw [if_pos h2] at h; cases h
  rw [if_neg h2] at h e
  by_cases h3 : nodeF nd = false
  · rw [if_pos h3] at h; cases h
  rw [if_neg h3] at h e
  refine ⟨ok_iff.1 (bT h1), bT h2, bT h3, ?_⟩
  by_cases h4 : addsF o = false
  · rw [if_pos h4] at h e
    by_cases h5 : (offF o c.2).length = 0
    · rw [if_pos h5] at h; cases h
    · rw [if_neg h5] at e
      exact .inl ⟨h4, by omega, e⟩
  · rw [if_neg h4] at h e
    by_cases h5 : getF c.1 nd = 18446744073709551615
    · rw [if_pos h5] at h; cases h
    rw [if_neg h5] at h e
    by_cases h6 : 40 ≤ (stL o c.2).length
    · rw [if_pos h6] at h; cases h
    · rw [if_neg h6] at e
      exact .inr ⟨bT h4, h5, by omega, e⟩
theorem st_mem {o : Op3} {l : List Ent} {e : Ent} : e ∈ stL o l ↔ e ∈ l ∧ goneF o e = false := by simp [stL, List.mem_filter]
theorem go_mem {o : Op3} {l : List Ent} {e : Ent} : e ∈ goL o l ↔ e ∈ l ∧ goneF o e = true := by simp [goL, List.mem_filter]
theorem Ok.part {v : List Int} {l : List Ent} (h : Ok v l) (p : Ent → Bool) : Ok v (l.filter p) where
  few := Nat.le_trans (List.length_filter_le _ _) h.few
  up := h.up.sublist List.filter_sublist
  ent e he := h.ent e (List.mem_filter.1 he).1
  has e he := h.has e (List.mem_filter.1 he).1
  one e he f hf hd := h.one e (List.mem_filter.1 he).1 f (List.mem_filter.1 hf).1 hd
theorem off_mem {v : List Int} {l : List Ent} (h : Ok v l) {o : Op3} {d : Dot} : d ∈ offF o l ↔ ∃ e ∈ l, goneF o e = true ∧ dotE e = d := by
  have hg : Ok v (goL o l) := h.part _
  rw [offF, hg.live, List.mem_map]
  constructor
  · rintro ⟨e, he, rfl⟩; exact ⟨e, (go_mem.1 he).1, (go_mem.1 he).2, rfl⟩
  · rintro ⟨e, h1, h2, rfl⟩; exact ⟨e, go_mem.2 ⟨h1, h2⟩, rfl⟩
theorem off_len (o : Op3) {l : List Ent} (h : l.length ≤ 2000) : (offF o l).length ≤ l.length := by
  have h1 : (goL o l).length ≤ l.length := List.length_filter_le _ _
  rw [offF, live_set _ (by omega)]
  have := setF_len ((goL o l).map dotE)
  rw [List.length_map] at this; omega
theorem newD_not (v : List Int) (nd : Int) : hasF v (newD v nd) = false := by
  unfold hasF newD
  rw [decide_eq_false (by simp only; omega), Bool.and_false]
theorem set_get {v : List Int} {i j : Nat} {x : Int} (hi : i < v.length) : (v.set i x).getD j default = if i = j then x else v.getD j default := by
  rw [List.getD_eq_getElem?_getD, List.getElem?_set]
  by_cases e : i = j
  · subst e; rw [if_pos rfl, if_pos hi, if_pos rfl]; rfl
  · rw [if_neg e, if_neg e, ← List.getD_eq_getElem?_getD]
theorem with_is {v : List Int} {nd : Int} (hn : nodeF nd = true) : withF v (newD v nd) = v.set (nd - 1).toNat (getF v nd + 1) := by
  have h := of_decide_eq_true hn
  have e : getF v nd = v.getD (nd - 1).toNat default := by unfold getF; rw [if_pos h]
  unfold withF newD
  rw [if_pos hn]
  simp only
  rw [← e, if_pos (by omega)]
theorem with_get {v : List Int} {nd : Int} (hv : v.length = 8) (hn : nodeF nd = true) (n : Int) : getF (withF v (newD v nd)) n = if n = nd then getF v nd + 1 else getF v n := by
  have h := of_decide_eq_true hn
  rw [with_is hn]
  by_cases hk : 1 ≤ n ∧ n ≤ 8
  · have e1 : getF (v.set (nd - 1).toNat (getF v nd + 1)) n = (v.set (nd - 1).toNat (getF v nd + 1)).getD (n - 1).toNat default := by unfold getF; rw [if_pos hk]
    have e2 : getF v n = v.getD (n - 1).toNat default := by unfold getF; rw [if_pos hk]
    rw [e1, set_get (by omega), e2]
    by_cases e : n = nd
    · rw [if_pos (by omega), if_pos e]
    · rw [if_neg (by omega), if_neg e]
  · have e1 : ∀ w : List Int, getF w n = 0 := fun w => by unfold getF; rw [if_neg hk]
    rw [e1, e1, if_neg (by omega)]
theorem with_has {v : List Int} {nd : Int} (hv : v.length = 8) (hb : ∀ n ∈ v, 0 ≤ n ∧ n < 18446744073709551616) (hn : nodeF nd = true) (d : Dot) : hasF (withF v (newD v nd)) d = (hasF v d || decide (d = newD v nd)) := by
  obtain ⟨g1, g2⟩ := getF_in hb nd
  have h := of_decide_eq_true hn
  unfold hasF
  rw [with_get hv hn, Bool.eq_iff_iff]
  simp only [Bool.and_eq_true, Bool.or_eq_true, decide_eq_true_eq]
  obtain ⟨a, b⟩ := d
  unfold newD dotF
  simp only [decide_eq_true_eq, Prod.mk.injEq]
  by_cases e : a = nd
  · subst e
    rw [if_pos rfl]; omega
  · rw [if_neg e]; omega
theorem new_not {c : Crt} (h : Ok c.1 c.2) (nd : Int) (o : Op3) : ∀ e ∈ c.2, dotE e ≠ newD c.1 nd := fun e he q => by
  have := h.has e he
  rw [q, newD_not] at this; cases this
theorem newE_dot (v : List Int) (nd : Int) (o : Op3) : dotE (newE v nd o) = newD v nd := rfl
theorem may_ent {o : Op3} (h : mayF o = true) (ha : addsF o = true) (v : List Int) (nd : Int) : entF (newE v nd o) = true := by
  have h1 := of_decide_eq_true h
  have h2 := of_decide_eq_true ha
  exact decide_eq_true (by simp only [newE]; omega)
section
variable {c : Crt} {nd : Int} {o : Op3} (hc : c.1.length = 8) (hb : ∀ n ∈ c.1, 0 ≤ n ∧ n < 18446744073709551616)
/-- with one entry more it may be -/
theorem add_nodup (h : Ok c.1 c.2) : (stL o c.2 ++ [newE c.1 nd o]).Nodup := by
  refine List.nodup_append.2 ⟨(up_nodup h.up).sublist List.filter_sublist, List.nodup_cons.2 ⟨by simp, List.nodup_nil⟩, fun x hx y hy e => ?_⟩
  obtain rfl := List.mem_singleton.1 hy
  subst e
  exact new_not h nd o _ (st_mem.1 hx).1 (newE_dot ..)
include hc hb in
theorem add_ok (h : Ok c.1 c.2) (hm : mayF o = true) (hn : nodeF nd = true) (ha : addsF o = true) (hl : (stL o c.2).length < 40) : Ok (withF c.1 (newD c.1 nd)) (sortE (stL o c.2 ++ [newE c.1 nd o])) := by
  have hmem : ∀ e ∈ sortE (stL o c.2 ++ [newE c.1 nd o]), e ∈ c.2 ∨ e = newE c.1 nd o := fun e he => by
    rw [sortE_mem, List.mem_append, List.mem_singleton] at he
    exact he.imp (fun k => (st_mem.1 k).1) id
  refine ⟨?_, sortE_sup (add_nodup h), fun e he => ?_, fun e he => ?_, fun e he f hf hd => ?_⟩
  · rw [sortE_len, List.length_append, List.length_singleton]; omega
  · rcases hmem e he with k | rfl
    · exact h.ent e k
    · exact may_ent hm ha _ _
  · rw [with_has hc hb hn, Bool.or_eq_true]
    rcases hmem e he with k | rfl
    · exact .inl (h.has e k)
    · exact .inr (decide_eq_true (newE_dot ..))
  · rcases hmem e he with k | rfl <;> rcases hmem f hf with q | rfl
    · exact h.one e k f q hd
    · exact absurd hd (new_not h nd o e k)
    · exact absurd hd.symm (new_not h nd o f q)
    · rfl
include hc hb in
theorem Did.okd (h : Did c nd o) : Ok (doF c nd o).1.1.1 (doF c nd o).1.1.2 := by
  rcases h.is with ⟨h1, h2, e⟩ | ⟨h1, h2, h3, e⟩
  · rw [e]; exact h.ok.part _
  · rw [e]; exact add_ok hc hb h.ok h.may h.node h1 h3
include hc in
theorem Did.len8 (h : Did c nd o) : (doF c nd o).1.1.1.length = 8 := by
  rcases h.is with ⟨h1, h2, e⟩ | ⟨h1, h2, h3, e⟩
  · rw [e]; exact hc
  · rw [e]; show (withF _ _).length = 8; rw [withF_len]; exact hc
include hb in
theorem Did.bnd (h : Did c nd o) : ∀ n ∈ (doF c nd o).1.1.1, 0 ≤ n ∧ n < 18446744073709551616 := by
  rcases h.is with ⟨h1, h2, e⟩ | ⟨h1, h2, h3, e⟩
  · rw [e]; exact hb
  · rw [e]
    show ∀ n ∈ withF _ _, _
    rw [with_is h.node]
    intro n hn
    obtain ⟨g1, g2⟩ := getF_in hb nd
    rcases List.mem_or_eq_of_mem_set hn with k | rfl
    · exact hb n k
    · omega
include hc hb in
theorem Did.has (h : Did c nd o) (d : Dot) (hd : hasF c.1 d = true) : hasF (doF c nd o).1.1.1 d = true := by
  rcases h.is with ⟨h1, h2, e⟩ | ⟨h1, h2, h3, e⟩
  · rw [e]; exact hd
  · rw [e]
    show hasF (withF _ _) d = true
    rw [with_has hc hb h.node, hd]; rfl
include hc in
theorem Did.le (h : Did c nd o) : ∀ i, i < 8 → c.1.getD i default ≤ (doF c nd o).1.1.1.getD i default := by
  rcases h.is with ⟨h1, h2, e⟩ | ⟨h1, h2, h3, e⟩
  · rw [e]; exact fun i _ => Int.le_refl _
  · rw [e]
    intro i hi
    show _ ≤ (withF _ _).getD i default
    have hn := of_decide_eq_true h.node
    rw [with_is h.node, set_get (by omega)]
    split
    · rename_i q
      have : getF c.1 nd = c.1.getD i default := by unfold getF; rw [if_pos hn, q]
      omega
    · exact Int.le_refl _
include hc in
theorem Did.cov (h : Did c nd o) : covF (doF c nd o).1.1.1 c.1 = true := (covF_iff (h.len8 hc) hc).2 (h.le hc)
end
theorem evt_off {c : Crt} {nd : Int} {o : Op3} (h : Did c nd o) : (doF c nd o).1.2.2.2.2.2 = offF o c.2 := by
  rcases h.is with ⟨h1, h2, e⟩ | ⟨h1, h2, h3, e⟩ <;> rw [e]
/-- a rising list of dots that may be is a set -/
theorem dr_of {l : List Dot} (h : l.Pairwise ltD) (hd : ∀ d ∈ l, dotF d = true) (h2 : l.length ≤ 2000) : dRightF l = true := by
  have key : ∀ n k, k + n = l.length → drTo l k n = true := by
    intro n
    induction n with
    | zero => intro k _; rfl
    | succ n ih =>
      intro k hk
      rw [drTo, ih (k + 1) (by omega), Bool.and_true]
      unfold drow
      rw [getD_at (by omega), hd _ (List.getElem_mem _), Bool.true_and, Bool.or_eq_true, decide_eq_true_eq, decide_eq_true_eq]
      by_cases h0 : k = 0
      · exact .inl h0
      · right
        rw [getD_at (by omega), cmpD_lt]
        exact List.pairwise_iff_getElem.1 h (k - 1) k (by omega) (by omega) (by omega)
  unfold dRightF
  rw [key l.length 0 (by omega), Bool.true_and]
  exact decide_eq_true h2
theorem off_set {o : Op3} {l : List Ent} (h : l.length ≤ 2000) : dRightF (offF o l) = true := by
  have h1 : (goL o l).length ≤ l.length := List.length_filter_le _ _
  have h2 := off_len o h
  rw [offF, live_set _ (by omega)] at h2 ⊢
  exact dr_of (setF_up _) (fun d hd => (setF_mem.1 hd).2) (by omega)
/-! the items -/
theorem ofF_append (a b : List Ent) (x : Int) : ofF (a ++ b) x = ofF a x ++ ofF b x := List.filter_append ..
theorem ofF_perm {a b : List Ent} (h : a.Perm b) (x : Int) : (ofF a x).Perm (ofF b x) := h.filter _
theorem ofF_sort (l : List Ent) (x : Int) : (ofF (sortE l) x).Perm (ofF l x) := ofF_perm (sortE_perm l) x
theorem of_st {o : Op3} {l : List Ent} {x : Int} (h : ∀ e ∈ l, e.1 = x → goneF o e = false) : ofF (stL o l) x = ofF l x := by
  unfold ofF stL
  rw [List.filter_filter]
  refine List.filter_congr fun e he => ?_
  by_cases k : e.1 = x
  · rw [h e he k]; simp
  · simp [k]
theorem of_gone {o : Op3} {l : List Ent} {x : Int} (h : ∀ e ∈ l, e.1 = x → goneF o e = true) : ofF (stL o l) x = [] := by
  unfold ofF stL
  rw [List.filter_filter, List.filter_eq_nil_iff]
  intro e he
  by_cases k : e.1 = x
  · rw [h e he k]; simp
  · simp [k]
theorem of_new (v : List Int) (nd : Int) (o : Op3) (x : Int) : ofF [newE v nd o] x = if o.2.1 = x then [newE v nd o] else [] := by
  unfold ofF newE
  by_cases k : o.2.1 = x
  · rw [if_pos k, List.filter_cons_of_pos (by simp [k])]; rfl
  · rw [if_neg k, List.filter_cons_of_neg (by simp [k])]; rfl
theorem off_none {o : Op3} {l : List Ent} (h : o.1 = 1) : offF o l = [] := by
  have : goL o l = [] := by
    unfold goL
    rw [List.filter_eq_nil_iff]
    intro e _
    unfold goneF
    rw [decide_eq_true_eq]; omega
  rw [offF, this, live_set _ (by simp)]
  exact setF_id .nil (fun d h => by cases h)
/-- what is said of an op that was done -/
structure Said (c : Crt) (nd : Int) (o : Op3) (d : Crt) (x : Evt) : Prop where
  four : o.1 = 4 → d.2 = [] ∧ d.1 = c.1
  other : ∀ y, o.1 ≠ 4 → y ≠ o.2.1 → (ofF d.2 y).length = (ofF c.2 y).length
  one : o.1 = 1 → (ofF d.2 o.2.1).length = (ofF c.2 o.2.1).length + 1 ∧ x.2.2.2.2 = []
  two : o.1 = 2 → (ofF d.2 o.2.1).length = 1 ∧ getQ d.2 o.2.1 = o.2.2 ∧ 0 ≤ o.2.2 ∧ o.2.2 ≤ 1000
  three : o.1 ≠ 1 → o.1 ≠ 2 → o.1 ≠ 4 → (ofF d.2 o.2.1).length = 0 ∧ d.1 = c.1
theorem q_one {e : Ent} (h : 0 ≤ e.2.2.2 ∧ e.2.2.2 ≤ 1000) {l : List Ent} {x : Int} (hl : (ofF l x).Perm [e]) : getQ l x = e.2.2.2 := by
  rw [getQ_is, (upS_perm hl).1, (upS_perm hl).2]
  have e1 : upS [e] = e.2.2.2 ∧ dnS [e] = 0 := by
    have := upS_snoc (e := e) (l := [])
    rw [List.nil_append] at this
    rw [this.1, this.2]
    unfold ofT
    rw [if_neg (by omega)]
    simp [upS, dnS]
  rw [e1.1, e1.2]
  have m1 : mnF e.2.2.2 = e.2.2.2 := by unfold mnF; rw [if_neg (by omega)]
  have m0 : mnF 0 = 0 := rfl
  rw [m1, m0]
  unfold valF
  simp only
  split <;> omega
theorem Did.said {c : Crt} {nd : Int} {o : Op3} (h : Did c nd o) : Said c nd o (doF c nd o).1.1 (doF c nd o).1.2 := by
  have hm := of_decide_eq_true h.may
  rcases h.is with ⟨h1, h2, e⟩ | ⟨h1, h2, h3, e⟩
  · have ha := of_decide_eq_false h1
    rw [e]
    refine ⟨fun k => ⟨?_, rfl⟩, fun y hy hk => ?_, fun k => by omega, fun k => by omega, fun k1 k2 k4 => ⟨?_, rfl⟩⟩
    · show stL o c.2 = []
      unfold stL
      rw [List.filter_eq_nil_iff]
      intro e _
      unfold goneF
      simp [k]
    · show (ofF (stL o c.2) y).length = _
      rw [of_st fun e _ hx => by
        unfold goneF
        exact decide_eq_false (by omega)]
    · show (ofF (stL o c.2) o.2.1).length = 0
      rw [of_gone fun e _ hx => by
        unfold goneF
        exact decide_eq_true (by omega)]
      rfl
  · have ha := of_decide_eq_true h1
    rw [e]
    have hp : ∀ y, (ofF (sortE (stL o c.2 ++ [newE c.1 nd o])) y).Perm (ofF (stL o c.2) y ++ if o.2.1 = y then [newE c.1 nd o] else []) := fun y => by
      have := ofF_sort (stL o c.2 ++ [newE c.1 nd o]) y
      rw [ofF_append, of_new] at this
      exact this
    refine ⟨fun k => by omega, fun y hy hk => ?_, fun k => ⟨?_, off_none k⟩, fun k => ?_, fun k1 k2 k4 => by omega⟩
    · show (ofF (sortE _) y).length = _
      rw [(hp y).length_eq, if_neg (fun q => hk q.symm), List.append_nil, of_st fun e _ hx => by
        unfold goneF
        exact decide_eq_false (by omega)]
    · show (ofF (sortE _) o.2.1).length = _
      rw [(hp o.2.1).length_eq, if_pos rfl, List.length_append, of_st fun e _ hx => by
        unfold goneF
        exact decide_eq_false (by omega)]
      rfl
    · have hq := hp o.2.1
      rw [if_pos rfl, of_gone (fun e _ hx => by
        unfold goneF
        exact decide_eq_true (by omega)), List.nil_append] at hq
      refine ⟨?_, ?_, by omega, by omega⟩
      · show (ofF (sortE _) o.2.1).length = 1
        rw [hq.length_eq]; rfl
      · exact q_one (e := newE c.1 nd o) (by show 0 ≤ o.2.2 ∧ o.2.2 ≤ 1000; omega) hq
/-! the dots -/
theorem off_law2 {c : Crt} {nd : Int} {o : Op3} (hc : c.1.length = 8) (hb : ∀ n ∈ c.1, 0 ≤ n ∧ n < 18446744073709551616) (h : Did c nd o) {d : Dot} (hd : d ∈ offF o c.2) : d ∈ liveF c.2 ∧ isOffF (doF c nd o).1.1.1 (doF c nd o).1.1.2 d = true := by
  obtain ⟨e, he, hg, rfl⟩ := (off_mem h.ok).1 hd
  refine ⟨h.ok.live.2 (List.mem_map.2 ⟨e, he, rfl⟩), ?_⟩
  unfold isOffF
  rw [h.has hc hb _ (h.ok.has e he), Bool.true_and]
  have : ((doF c nd o).1.1.2.any fun f => decide (dotE f = dotE e)) = false := by
    rw [List.any_eq_false]
    intro f hf
    rw [decide_eq_true_eq]
    intro q
    have hst : f ∈ stL o c.2 ∨ f = newE c.1 nd o := by
      rcases h.is with ⟨h1, h2, e⟩ | ⟨h1, h2, h3, e⟩
      · rw [e] at hf; exact .inl hf
      · rw [e] at hf
        have hf : f ∈ sortE (stL o c.2 ++ [newE c.1 nd o]) := hf
        rw [sortE_mem, List.mem_append, List.mem_singleton] at hf
        exact hf
    rcases hst with k | rfl
    · obtain ⟨k1, k2⟩ := st_mem.1 k
      have := h.ok.one f k1 e he q
      rw [this, hg] at k2; cases k2
    · exact new_not h.ok nd o e he q.symm
  rw [this]; rfl
/-- of an op that adds: its dot was not known, it is, and it is live -/
theorem new_law {c : Crt} {nd : Int} {o : Op3} (hc : c.1.length = 8) (hb : ∀ n ∈ c.1, 0 ≤ n ∧ n < 18446744073709551616) (h : Did c nd o) (ho : o.1 < 3) : (doF c nd o).1.2.2.2.2.1 = newD c.1 nd ∧ hasF c.1 (newD c.1 nd) = false ∧ hasF (doF c nd o).1.1.1 (newD c.1 nd) = true ∧ newD c.1 nd ∈ liveF (doF c nd o).1.1.2 := by
  have hm := of_decide_eq_true h.may
  have hk := h.okd hc hb
  rcases h.is with ⟨h1, h2, e⟩ | ⟨h1, h2, h3, e⟩
  · have ha := of_decide_eq_false h1
    omega
  · have hh : hasF (withF c.1 (newD c.1 nd)) (newD c.1 nd) = true := by rw [with_has hc hb h.node]; simp
    refine ⟨by rw [e], newD_not _ _, by rw [e]; exact hh, ?_⟩
    rw [hk.live, e]
    refine List.mem_map.2 ⟨newE c.1 nd o, ?_, newE_dot ..⟩
    show _ ∈ sortE _
    rw [sortE_mem, List.mem_append]
    exact .inr (List.mem_singleton.2 rfl)
end Go.Proofs.YtgiekdhipbikoaaGreat.Ca
