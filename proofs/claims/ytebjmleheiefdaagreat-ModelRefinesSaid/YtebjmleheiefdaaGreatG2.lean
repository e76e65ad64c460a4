/- dots: the dots of two lists: of either, of both, of one alone; dots: maundlaw04.alive; edits in plain Lean: what an op does to a cart; dots, the laws: DotsSets, DotsWhole; dots, plain: a whole set is one that has of each dot the one ahead, too; the model in plain Lean: which lists of events are whole, and what cart they make; the model in plain Lean: what is done at three replicas, and joined between them; the model in plain Lean: three replicas: what stays so -/
import Derived.Test.YtebjmleheiefdaaGreatCd4
import Derived.Test.YtebjmleheiefdaaGreatCaG
import Derived.Test.YtebjmleheiefdaaGreatCa4
import Derived.Test.YtebjmleheiefdaaGreatKw
import Derived.Test.YtebjmleheiefdaaGreatTy
import Derived.Test.YtebjmleheiefdaaGreatKg
import Derived.Test.YtebjmleheiefdaaGreatCaQ
import Derived.Test.YtebjmleheiefdaaGreatCj3
import Derived.Test.YtebjmleheiefdaaGreatCe1
namespace Go.Proofs.YtebjmleheiefdaaGreat.Wi
end Go.Proofs.YtebjmleheiefdaaGreat.Wi
namespace Go.Proofs.YtebjmleheiefdaaGreat.Ca
open Go Go.RowKit Go.Aw Go.Aw.Cart
set_option linter.unusedVariables false
set_option linter.unusedSimpArgs false
set_option maxRecDepth 8000
set_option maxHeartbeats 4000000
open D4
theorem filterD_at {p : Dot → Bool} {l : List Dot} {i : Nat} (hi : i < l.length) (hp : p (l.getD i default) = true) : (l.filter p)[((l.take i).filter p).length]? = some (l.getD i default) := by
  have e : l = l.take i ++ l.getD i default :: l.drop (i + 1) := by
    rw [getD_at hi, ← List.drop_eq_getElem_cons hi, List.take_append_drop]
  conv => lhs; arg 1; rw [e]
  rw [List.filter_append, List.getElem?_append_right (Nat.le_refl _), Nat.sub_self, List.filter_cons_of_pos hp]; rfl
theorem filterD_go {p : Dot → Bool} {l : List Dot} {i : Nat} (hi : i < l.length) : ((l.take (i + 1)).filter p).length = ((l.take i).filter p).length + (if p (l.getD i default) = true then 1 else 0) := by
  rw [take_get' hi, List.filter_append, List.length_append]
  congr 1
  by_cases h : p (l.getD i default) = true
  · rw [if_pos h, List.filter_cons_of_pos h]; rfl
  · rw [if_neg h, List.filter_cons_of_neg h]; rfl
def someP (b : List Dot) (has : Bool) (d : Dot) : Bool := decide (d ∈ b) == has
def someF (a b : List Dot) (has : Bool) : List Dot := a.filter (someP b has)
theorem some_len (a b : List Dot) (has : Bool) : (someF a b has).length ≤ a.length := List.length_filter_le _ _
end Go.Proofs.YtebjmleheiefdaaGreat.Ca
namespace Go.Proofs.YtebjmleheiefdaaGreat.Ca
open Go Go.RowKit Go.Aw Go.Aw.Cart Go.Aw.Ord Go.Sort Go.Proofs.YtebjmleheiefdaaGreat.Wi
set_option linter.unusedVariables false
set_option linter.unusedSimpArgs false
set_option maxRecDepth 8000
set_option maxHeartbeats 4000000
theorem dof_is {l : List Dot} (h : l.length ≤ 2000) : G.dotsOf l = setF l := by
  rw [dotsOf_is, List.take_of_length_le]
  have := setF_len l
  omega
/-- a set of given dots -/
theorem set_are {l m : List Dot} (hl : l.length ≤ 2000) (hu : m.Pairwise ltD) (hm : ∀ x, x ∈ m ↔ x ∈ l ∧ dotF x = true) : G.dotsOf l = m := by
  rw [dof_is hl]
  exact up_ext ltD_ir ltD_tr (setF_up l) hu fun x => by rw [setF_mem]; exact (hm x).symm
namespace K4
def B6 : List Nat := [1, 1, 1, 1, 1, 1]
theorem up2 : ([(1, 1), (2, 3)] : List Dot).Pairwise ltD := List.pairwise_cons.2 ⟨fun x hx => by rw [List.mem_singleton.1 hx]; exact .inl (by decide), List.pairwise_singleton _ _⟩
theorem d0 : G.dotsOf [(2, 3), (1, 1), (2, 3), (0, 0)] = [(1, 1), (2, 3)] := set_are (by decide) up2 fun x => by
  obtain ⟨a, b⟩ := x
  simp only [List.mem_cons, List.not_mem_nil, or_false, Prod.mk.injEq, dotF, decide_eq_true_eq]
  omega
theorem d1 : G.dotsOf (someF [(1, 1), (2, 3)] [(2, 3)] false) = [(1, 1)] := by
  rw [show someF [(1, 1), (2, 3)] [(2, 3)] false = [(1, 1)] by decide]
  exact set_are (by decide) (List.pairwise_singleton _ _) fun x => by
    obtain ⟨a, b⟩ := x
    simp only [List.mem_cons, List.not_mem_nil, or_false, Prod.mk.injEq, dotF, decide_eq_true_eq]
    omega
theorem d2 : G.dotsOf ([(1, 1)] ++ [(1, 1), (2, 3)]) = [(1, 1), (2, 3)] := set_are (by decide) up2 fun x => by
  obtain ⟨a, b⟩ := x
  simp only [List.mem_append, List.mem_cons, List.not_mem_nil, or_false, Prod.mk.injEq, dotF, decide_eq_true_eq]
  omega
theorem d3 : G.dotsOf (someF [(1, 1)] [(1, 1), (2, 3)] true) = [(1, 1)] := by
  rw [show someF [(1, 1)] [(1, 1), (2, 3)] true = [(1, 1)] by decide]
  exact set_are (by decide) (List.pairwise_singleton _ _) fun x => by
    obtain ⟨a, b⟩ := x
    simp only [List.mem_cons, List.not_mem_nil, or_false, Prod.mk.injEq, dotF, decide_eq_true_eq]
    omega
end K4
namespace D7
theorem lopC {C : Ctx} {o : Oper} {σ : St} {e : Eff} {ro : Nat → Bool} (h : LOp C o σ e ro := by
    first
      | (apply lop_bsb; (focus rfl); (focus exact inferInstance); (focus exact inferInstance); (focus exact inferInstance); (focus repeat' (first | exact All2.nil | (apply bs_cons; (focus rfl); (focus rfl); (focus rfl)))); (focus rfl); (focus decide); (focus first | decide | omega); (focus repeat' (first | exact All2.nil | (apply All2.cons; (focus rfl)))); (focus rfl))
      | exact W4.lopC
      | exact lopV
      | fail) : LOp C o σ e ro := h
section steps
variable {C : Ctx} {ops : Array Oper} {o : Oper} {rest : List Oper} {K : St → Prop} {σ : St} {e : Eff} {ro : Nat → Bool} {W : List (Nat × Nat)} {i : Nat}
theorem rnC {d : Nat} (hk : RunN C ops rest K (e.app (some d) σ)) (hg : Guard ops σ o true := by first | exact gd_n rfl rfl | exact gd_t rfl rfl rfl rfl | exact gd_t rfl rfl rfl (by assumption)) (hd : o.dst = some d := by rfl) (h : LOp C o σ e ro := by exact lopC) : RunN C ops (o :: rest) K σ := rn_any hg hd h hk
theorem rkC {d : Nat} (hk : RunK C ops W (i + 1) rest K (e.app (some d) σ)) (hg : Guard ops σ o true := by first | exact gd_n rfl rfl | exact gd_t rfl rfl rfl rfl | exact gd_t rfl rfl rfl (by assumption)) (hd' : o.dst = some d := by rfl) (hd : dOk C o.dst = true := by rfl) (h : LOp C o σ e ro := by exact lopC)
    (hro : ∀ x, ro x = true → okObj ops W i x = true := by first | exact fun _ => ro_none | exact ro_one rfl | exact ro_k1 rfl | exact ro_one (by kernel_rfl) | exact ro_k1 (by kernel_rfl) | exact ro_kIn (by decide)) (hob : ∀ p ∈ e.obj, (i, p.1) ∈ W := by first | exact ob_none | exact ob_one (by decide) | decide) : RunK C ops W i (o :: rest) K σ := rk_wr hg hd' hd h hro hob hk
end steps
end D7
open D7 K4
end Go.Proofs.YtebjmleheiefdaaGreat.Ca
namespace Go.Proofs.YtebjmleheiefdaaGreat.Ca
open Go Go.RowKit Go.Aw Go.Aw.Cart Go.Aw.Ord Go.Sort
set_option linter.unusedVariables false
set_option linter.unusedSimpArgs false
abbrev Evt := Int × Int × Int × Dot × List Dot
def stL (o : Op3) (l : List Ent) : List Ent := l.filter fun e => !goneF o e
def goL (o : Op3) (l : List Ent) : List Ent := l.filter fun e => goneF o e
def offF (o : Op3) (l : List Ent) : List Dot := liveF (goL o l)
def addsF (o : Op3) : Bool := decide (o.1 = 1 ∨ o.1 = 2)
def newD (v : List Int) (nd : Int) : Dot := (nd, getF v nd + 1)
def newE (v : List Int) (nd : Int) (o : Op3) : Ent := (o.2.1, nd, getF v nd + 1, o.2.2)
def zeroE : Evt := (0, 0, 0, (0, 0), [])
/-- the cart, the event, the error -/
def doF (c : Crt) (nd : Int) (o : Op3) : (Crt × Evt) × Int :=
  if rightF c.1 c.2 = false then (((zeroV, []), zeroE), 3) else
  if mayF o = false then (((zeroV, []), zeroE), 1) else
  if nodeF nd = false then (((zeroV, []), zeroE), 11) else
  if addsF o = false then
    (if (offF o c.2).length = 0 then (((zeroV, []), zeroE), 4) else (((c.1, stL o c.2), (o.1, 0, 0, (0, 0), offF o c.2)), 0)) else
  if getF c.1 nd = 18446744073709551615 then (((zeroV, []), zeroE), 13) else
  if 40 ≤ (stL o c.2).length then (((zeroV, []), zeroE), 5) else
  (((withF c.1 (newD c.1 nd), sortE (stL o c.2 ++ [newE c.1 nd o])), (o.1, o.2.1, o.2.2, newD c.1 nd, offF o c.2)), 0)
theorem bT {b : Bool} (h : ¬ b = false) : b = true := by cases b <;> simp_all
/-- what is done: entries go, or one comes, too -/
structure Did (c : Crt) (nd : Int) (o : Op3) : Prop where
  ok : Ok c.1 c.2
  may : mayF o = true
  node : nodeF nd = true
  is : (addsF o = false ∧ 0 < (offF o c.2).length ∧ doF c nd o = (((c.1, stL o c.2), (o.1, 0, 0, (0, 0), offF o c.2)), 0)) ∨
    (addsF o = true ∧ getF c.1 nd ≠ 18446744073709551615 ∧ (stL o c.2).length < 40 ∧ doF c nd o = (((withF c.1 (newD c.1 nd), sortE (stL o c.2 ++ [newE c.1 nd o])), (o.1, o.2.1, o.2.2, newD c.1 nd, offF o c.2)), 0))
theorem did {c : Crt} {nd : Int} {o : Op3} (h : (doF c nd o).2 = 0) : Did c nd o := by
  have e : doF c nd o = doF c nd o := rfl
  conv at e => rhs; unfold doF
  rw [e] at h
  by_cases h1 : rightF c.1 c.2 = false
  · rw [if_pos h1] at h; cases h
  rw [if_neg h1] at h e
  by_cases h2 : mayF o = false
  · rw [if_pos h2] at h; cases h
  rw [if_neg h2] at h e
  by_cases h3 : nodeF nd = false
  · rw [if_pos h3] at h; cases h
  rw [if_neg h3] at h e
  refine ⟨ok_iff.1 (bT h1), bT h2, bT h3, ?_⟩
  by_cases h4 : addsF o = false
  · rw [if_pos h4] at h e
    by_cases h5 : (offF o c.2).length = 0
    · rw [if_pos h5] at h; cases h
    · rw [if_neg h5] at e
      exact .inl ⟨h4, by omega, e⟩
  · rw [if_neg h4] at h e
    by_cases h5 : getF c.1 nd = 18446744073709551615
    · rw [if_pos h5] at h; cases h
    rw [if_neg h5] at h e
    by_cases h6 : 40 ≤ (stL o c.2).length
    · rw [if_pos h6] at h; cases h
    · rw [if_neg h6] at e
      exact .inr ⟨bT h4, h5, by omega, e⟩
theorem st_mem {o : Op3} {l : List Ent} {e : Ent} : e ∈ stL o l ↔ e ∈ l ∧ goneF o e = false := by simp [stL, List.mem_filter]
theorem go_mem {o : Op3} {l : List Ent} {e : Ent} : e ∈ goL o l ↔ e ∈ l ∧ goneF o e = true := by simp [goL, List.mem_filter]
theorem Ok.part {v : List Int} {l : List Ent} (h : Ok v l) (p : Ent → Bool) : Ok v (l.filter p) where
  few := Nat.le_trans (List.length_filter_le _ _) h.few
  up := h.up.sublist List.filter_sublist
  ent e he := h.ent e (List.mem_filter.1 he).1
  has e he := h.has e (List.mem_filter.1 he).1
  one e he f hf hd := h.one e (List.mem_filter.1 he).1 f (List.mem_filter.1 hf).1 hd
theorem off_mem {v : List Int} {l : List Ent} (h : Ok v l) {o : Op3} {d : Dot} : d ∈ offF o l ↔ ∃ e ∈ l, goneF o e = true ∧ dotE e = d := by
  have hg : Ok v (goL o l) := h.part _
  rw [offF, hg.live, List.mem_map]
  constructor
  · rintro ⟨e, he, rfl⟩; exact ⟨e, (go_mem.1 he).1, (go_mem.1 he).2, rfl⟩
  · rintro ⟨e, h1, h2, rfl⟩; exact ⟨e, go_mem.2 ⟨h1, h2⟩, rfl⟩
theorem off_len (o : Op3) {l : List Ent} (h : l.length ≤ 2000) : (offF o l).length ≤ l.length := by
  have h1 : (goL o l).length ≤ l.length := List.length_filter_le _ _
  rw [offF, live_set _ (by omega)]
  have := setF_len ((goL o l).map dotE)
  rw [List.length_map] at this; omega
theorem newD_not (v : List Int) (nd : Int) : hasF v (newD v nd) = false := by
  unfold hasF newD
  rw [decide_eq_false (by simp only; omega), Bool.and_false]
theorem set_get {v : List Int} {i j : Nat} {x : Int} (hi : i < v.length) : (v.set i x).getD j default = if i = j then x else v.getD j default := by
  rw [List.getD_eq_getElem?_getD, List.getElem?_set]
  by_cases e : i = j
  · subst e; rw [if_pos rfl, if_pos hi, if_pos rfl]; rfl
  · rw [if_neg e, if_neg e, ← List.getD_eq_getElem?_getD]
theorem with_is {v : List Int} {nd : Int} (hn : nodeF nd = true) : withF v (newD v nd) = v.set (nd - 1).toNat (getF v nd + 1) := by
  have h := of_decide_eq_true hn
  have e : getF v nd = v.getD (nd - 1).toNat default := by unfold getF; rw [if_pos h]
  unfold withF newD
  rw [if_pos hn]
  simp only
  rw [← e, if_pos (by omega)]
theorem with_get {v : List Int} {nd : Int} (hv : v.length = 8) (hn : nodeF nd = true) (n : Int) : getF (withF v (newD v nd)) n = if n = nd then getF v nd + 1 else getF v n := by
  have h := of_decide_eq_true hn
  rw [with_is hn]
  by_cases hk : 1 ≤ n ∧ n ≤ 8
  · have e1 : getF (v.set (nd - 1).toNat (getF v nd + 1)) n = (v.set (nd - 1).toNat (getF v nd + 1)).getD (n - 1).toNat default := by unfold getF; rw [if_pos hk]
    have e2 : getF v n = v.getD (n - 1).toNat default := by unfold getF; rw [if_pos hk]
    rw [e1, set_get (by omega), e2]
    by_cases e : n = nd
    · rw [if_pos (by omega), if_pos e]
    · rw [if_neg (by omega), if_neg e]
  · have e1 : ∀ w : List Int, getF w n = 0 := fun w => by unfold getF; rw [if_neg hk]
    rw [e1, e1, if_neg (by omega)]
theorem with_has {v : List Int} {nd : Int} (hv : v.length = 8) (hb : ∀ n ∈ v, 0 ≤ n ∧ n < 18446744073709551616) (hn : nodeF nd = true) (d : Dot) : hasF (withF v (newD v nd)) d = (hasF v d || decide (d = newD v nd)) := by
  obtain ⟨g1, g2⟩ := getF_in hb nd
  have h := of_decide_eq_true hn
  unfold hasF
  rw [with_get hv hn, Bool.eq_iff_iff]
  simp only [Bool.and_eq_true, Bool.or_eq_true, decide_eq_true_eq]
  obtain ⟨a, b⟩ := d
  unfold newD dotF
  simp only [decide_eq_true_eq, Prod.mk.injEq]
  by_cases e : a = nd
  · subst e
    rw [if_pos rfl]; omega
  · rw [if_neg e]; omega
theorem new_not {c : Crt} (h : Ok c.1 c.2) (nd : Int) (o : Op3) : ∀ e ∈ c.2, dotE e ≠ newD c.1 nd := fun e he q => by
  have := h.has e he
  rw [q, newD_not] at this; cases this
theorem newE_dot (v : List Int) (nd : Int) (o : Op3) : dotE (newE v nd o) = newD v nd := rfl
theorem may_ent {o : Op3} (h : mayF o = true) (ha : addsF o = true) (v : List Int) (nd : Int) : entF (newE v nd o) = true := by
  have h1 := of_decide_eq_true h
  have h2 := of_decide_eq_true ha
  exact decide_eq_true (by simp only [newE]; omega)
section
variable {c : Crt} {nd : Int} {o : Op3} (hc : c.1.length = 8) (hb : ∀ n ∈ c.1, 0 ≤ n ∧ n < 18446744073709551616)
/-- with one entry more it may be -/
theorem add_nodup (h : Ok c.1 c.2) : (stL o c.2 ++ [newE c.1 nd o]).Nodup := by
  refine List.nodup_append.2 ⟨(up_nodup h.up).sublist List.filter_sublist, List.nodup_cons.2 ⟨by simp, List.nodup_nil⟩, fun x hx y hy e => ?_⟩
  obtain rfl := List.mem_singleton.1 hy
  subst e
  exact new_not h nd o _ (st_mem.1 hx).1 (newE_dot ..)
include hc hb in
theorem add_ok (h : Ok c.1 c.2) (hm : mayF o = true) (hn : nodeF nd = true) (ha : addsF o = true) (hl : (stL o c.2).length < 40) : Ok (withF c.1 (newD c.1 nd)) (sortE (stL o c.2 ++ [newE c.1 nd o])) := by
  have hmem : ∀ e ∈ sortE (stL o c.2 ++ [newE c.1 nd o]), e ∈ c.2 ∨ e = newE c.1 nd o := fun e he => by
    rw [sortE_mem, List.mem_append, List.mem_singleton] at he
    exact he.imp (fun k => (st_mem.1 k).1) id
  refine ⟨?_, sortE_sup (add_nodup h), fun e he => ?_, fun e he => ?_, fun e he f hf hd => ?_⟩
  · rw [sortE_len, List.length_append, List.length_singleton]; omega
  · rcases hmem e he with k | rfl
    · exact h.ent e k
    · exact may_ent hm ha _ _
  · rw [with_has hc hb hn, Bool.or_eq_true]
    rcases hmem e he with k | rfl
    · exact .inl (h.has e k)
    · exact .inr (decide_eq_true (newE_dot ..))
  · rcases hmem e he with k | rfl <;> rcases hmem f hf with q | rfl
    · exact h.one e k f q hd
    · exact absurd hd (new_not h nd o e k)
    · exact absurd hd.symm (new_not h nd o f q)
    · rfl
include hc hb in
theorem Did.okd (h : Did c nd o) : Ok (doF c nd o).1.1.1 (doF c nd o).1.1.2 := by
  rcases h.is with ⟨h1, h2, e⟩ | ⟨h1, h2, h3, e⟩
  · rw [e]; exact h.ok.part _
  · rw [e]; exact add_ok hc hb h.ok h.may h.node h1 h3
include hc in
theorem Did.len8 (h : Did c nd o) : (doF c nd o).1.1.1.length = 8 := by
  rcases h.is with ⟨h1, h2, e⟩ | ⟨h1, h2, h3, e⟩
  · rw [e]; exact hc
  · rw [e]; show (withF _ _).length = 8; rw [withF_len]; exact hc
include hb in
theorem Did.bnd (h : Did c nd o) : ∀ n ∈ (doF c nd o).1.1.1, 0 ≤ n ∧ n < 18446744073709551616 := by
  rcases h.is with ⟨h1, h2, e⟩ | ⟨h1, h2, h3, e⟩
  · rw [e]; exact hb
  · rw [e]
    show ∀ n ∈ withF _ _, _
    rw [with_is h.node]
    intro n hn
    obtain ⟨g1, g2⟩ := getF_in hb nd
    rcases List.mem_or_eq_of_mem_set hn with k | rfl
    · exact hb n k
    · omega
include hc hb in
theorem Did.has (h : Did c nd o) (d : Dot) (hd : hasF c.1 d = true) : hasF (doF c nd o).1.1.1 d = true := by
  rcases h.is with ⟨h1, h2, e⟩ | ⟨h1, h2, h3, e⟩
  · rw [e]; exact hd
  · rw [e]
    show hasF (withF _ _) d = true
    rw [with_has hc hb h.node, hd]; rfl
include hc in
theorem Did.le (h : Did c nd o) : ∀ i, i < 8 → c.1.getD i default ≤ (doF c nd o).1.1.1.getD i default := by
  rcases h.is with ⟨h1, h2, e⟩ | ⟨h1, h2, h3, e⟩
  · rw [e]; exact fun i _ => Int.le_refl _
  · rw [e]
    intro i hi
    show _ ≤ (withF _ _).getD i default
    have hn := of_decide_eq_true h.node
    rw [with_is h.node, set_get (by omega)]
    split
    · rename_i q
      have : getF c.1 nd = c.1.getD i default := by unfold getF; rw [if_pos hn, q]
      omega
    · exact Int.le_refl _
include hc in
theorem Did.cov (h : Did c nd o) : covF (doF c nd o).1.1.1 c.1 = true := (covF_iff (h.len8 hc) hc).2 (h.le hc)
end
theorem evt_off {c : Crt} {nd : Int} {o : Op3} (h : Did c nd o) : (doF c nd o).1.2.2.2.2.2 = offF o c.2 := by
  rcases h.is with ⟨h1, h2, e⟩ | ⟨h1, h2, h3, e⟩ <;> rw [e]
/-- a rising list of dots that may be is a set -/
theorem dr_of {l : List Dot} (h : l.Pairwise ltD) (hd : ∀ d ∈ l, dotF d = true) (h2 : l.length ≤ 2000) : dRightF l = true := by
  have key : ∀ n k, k + n = l.length → drTo l k n = true := by
    intro n
    induction n with
    | zero => intro k _; rfl
    | succ n ih =>
      intro k hk
      rw [drTo, ih (k + 1) (by omega), Bool.and_true]
      unfold drow
      rw [getD_at (by omega), hd _ (List.getElem_mem _), Bool.true_and, Bool.or_eq_true, decide_eq_true_eq, decide_eq_true_eq]
      by_cases h0 : k = 0
      · exact .inl h0
      · right
        rw [getD_at (by omega), cmpD_lt]
        exact List.pairwise_iff_getElem.1 h (k - 1) k (by omega) (by omega) (by omega)
  unfold dRightF
  rw [key l.length 0 (by omega), Bool.true_and]
  exact decide_eq_true h2
theorem off_set {o : Op3} {l : List Ent} (h : l.length ≤ 2000) : dRightF (offF o l) = true := by
  have h1 : (goL o l).length ≤ l.length := List.length_filter_le _ _
  have h2 := off_len o h
  rw [offF, live_set _ (by omega)] at h2 ⊢
  exact dr_of (setF_up _) (fun d hd => (setF_mem.1 hd).2) (by omega)
/-! the items -/
theorem ofF_append (a b : List Ent) (x : Int) : ofF (a ++ b) x = ofF a x ++ ofF b x := List.filter_append ..
theorem ofF_perm {a b : List Ent} (h : a.Perm b) (x : Int) : (ofF a x).Perm (ofF b x) := h.filter _
theorem ofF_sort (l : List Ent) (x : Int) : (ofF (sortE l) x).Perm (ofF l x) := ofF_perm (sortE_perm l) x
theorem of_st {o : Op3} {l : List Ent} {x : Int} (h : ∀ e ∈ l, e.1 = x → goneF o e = false) : ofF (stL o l) x = ofF l x := by
  unfold ofF stL
  rw [List.filter_filter]
  refine List.filter_congr fun e he => ?_
  by_cases k : e.1 = x
  · rw [h e he k]; simp
  · simp [k]
theorem of_gone {o : Op3} {l : List Ent} {x : Int} (h : ∀ e ∈ l, e.1 = x → goneF o e = true) : ofF (stL o l) x = [] := by
  unfold ofF stL
  rw [List.filter_filter, List.filter_eq_nil_iff]
  intro e he
  by_cases k : e.1 = x
  · rw [h e he k]; simp
  · simp [k]
theorem of_new (v : List Int) (nd : Int) (o : Op3) (x : Int) : ofF [newE v nd o] x = if o.2.1 = x then [newE v nd o] else [] := by
  unfold ofF newE
  by_cases k : o.2.1 = x
  · rw [if_pos k, List.filter_cons_of_pos (by simp [k])]; rfl
  · rw [if_neg k, List.filter_cons_of_neg (by simp [k])]; rfl
theorem off_none {o : Op3} {l : List Ent} (h : o.1 = 1) : offF o l = [] := by
  have : goL o l = [] := by
    unfold goL
    rw [List.filter_eq_nil_iff]
    intro e _
    unfold goneF
    rw [decide_eq_true_eq]; omega
  rw [offF, this, live_set _ (by simp)]
  exact setF_id .nil (fun d h => by cases h)
/-- what is said of an op that was done -/
structure Said (c : Crt) (nd : Int) (o : Op3) (d : Crt) (x : Evt) : Prop where
  four : o.1 = 4 → d.2 = [] ∧ d.1 = c.1
  other : ∀ y, o.1 ≠ 4 → y ≠ o.2.1 → (ofF d.2 y).length = (ofF c.2 y).length
  one : o.1 = 1 → (ofF d.2 o.2.1).length = (ofF c.2 o.2.1).length + 1 ∧ x.2.2.2.2 = []
  two : o.1 = 2 → (ofF d.2 o.2.1).length = 1 ∧ getQ d.2 o.2.1 = o.2.2 ∧ 0 ≤ o.2.2 ∧ o.2.2 ≤ 1000
  three : o.1 ≠ 1 → o.1 ≠ 2 → o.1 ≠ 4 → (ofF d.2 o.2.1).length = 0 ∧ d.1 = c.1
theorem q_one {e : Ent} (h : 0 ≤ e.2.2.2 ∧ e.2.2.2 ≤ 1000) {l : List Ent} {x : Int} (hl : (ofF l x).Perm [e]) : getQ l x = e.2.2.2 := by
  rw [getQ_is, (upS_perm hl).1, (upS_perm hl).2]
  have e1 : upS [e] = e.2.2.2 ∧ dnS [e] = 0 := by
    have := upS_snoc (e := e) (l := [])
    rw [List.nil_append] at this
    rw [this.1, this.2]
    unfold ofT
    rw [if_neg (by omega)]
    simp [upS, dnS]
  rw [e1.1, e1.2]
  have m1 : mnF e.2.2.2 = e.2.2.2 := by unfold mnF; rw [if_neg (by omega)]
  have m0 : mnF 0 = 0 := rfl
  rw [m1, m0]
  unfold valF
  simp only
  split <;> omega
theorem Did.said {c : Crt} {nd : Int} {o : Op3} (h : Did c nd o) : Said c nd o (doF c nd o).1.1 (doF c nd o).1.2 := by
  have hm := of_decide_eq_true h.may
  rcases h.is with ⟨h1, h2, e⟩ | ⟨h1, h2, h3, e⟩
  · have ha := of_decide_eq_false h1
    rw [e]
    refine ⟨fun k => ⟨?_, rfl⟩, fun y hy hk => ?_, fun k => by omega, fun k => by omega, fun k1 k2 k4 => ⟨?_, rfl⟩⟩
    · show stL o c.2 = []
      unfold stL
      rw [List.filter_eq_nil_iff]
      intro e _
      unfold goneF
      simp [k]
    · show (ofF (stL o c.2) y).length = _
      rw [of_st fun e _ hx => by
        unfold goneF
        exact decide_eq_false (by omega)]
    · show (ofF (stL o c.2) o.2.1).length = 0
      rw [of_gone fun e _ hx => by
        unfold goneF
        exact decide_eq_true (by omega)]
      rfl
  · have ha := of_decide_eq_true h1
    rw [e]
    have hp : ∀ y, (ofF (sortE (stL o c.2 ++ [newE c.1 nd o])) y).Perm (ofF (stL o c.2) y ++ if o.2.1 = y then [newE c.1 nd o] else []) := fun y => by
      have := ofF_sort (stL o c.2 ++ [newE c.1 nd o]) y
      rw [ofF_append, of_new] at this
      exact this
    refine ⟨fun k => by omega, fun y hy hk => ?_, fun k => ⟨?_, off_none k⟩, fun k => ?_, fun k1 k2 k4 => by omega⟩
    · show (ofF (sortE _) y).length = _
      rw [(hp y).length_eq, if_neg (fun q => hk q.symm), List.append_nil, of_st fun e _ hx => by
        unfold goneF
        exact decide_eq_false (by omega)]
    · show (ofF (sortE _) o.2.1).length = _
      rw [(hp o.2.1).length_eq, if_pos rfl, List.length_append, of_st fun e _ hx => by
        unfold goneF
        exact decide_eq_false (by omega)]
      rfl
    · have hq := hp o.2.1
      rw [if_pos rfl, of_gone (fun e _ hx => by
        unfold goneF
        exact decide_eq_true (by omega)), List.nil_append] at hq
      refine ⟨?_, ?_, by omega, by omega⟩
      · show (ofF (sortE _) o.2.1).length = 1
        rw [hq.length_eq]; rfl
      · exact q_one (e := newE c.1 nd o) (by show 0 ≤ o.2.2 ∧ o.2.2 ≤ 1000; omega) hq
/-! the dots -/
theorem off_law2 {c : Crt} {nd : Int} {o : Op3} (hc : c.1.length = 8) (hb : ∀ n ∈ c.1, 0 ≤ n ∧ n < 18446744073709551616) (h : Did c nd o) {d : Dot} (hd : d ∈ offF o c.2) : d ∈ liveF c.2 ∧ isOffF (doF c nd o).1.1.1 (doF c nd o).1.1.2 d = true := by
  obtain ⟨e, he, hg, rfl⟩ := (off_mem h.ok).1 hd
  refine ⟨h.ok.live.2 (List.mem_map.2 ⟨e, he, rfl⟩), ?_⟩
  unfold isOffF
  rw [h.has hc hb _ (h.ok.has e he), Bool.true_and]
  have : ((doF c nd o).1.1.2.any fun f => decide (dotE f = dotE e)) = false := by
    rw [List.any_eq_false]
    intro f hf
    rw [decide_eq_true_eq]
    intro q
    have hst : f ∈ stL o c.2 ∨ f = newE c.1 nd o := by
      rcases h.is with ⟨h1, h2, e⟩ | ⟨h1, h2, h3, e⟩
      · rw [e] at hf; exact .inl hf
      · rw [e] at hf
        have hf : f ∈ sortE (stL o c.2 ++ [newE c.1 nd o]) := hf
        rw [sortE_mem, List.mem_append, List.mem_singleton] at hf
        exact hf
    rcases hst with k | rfl
    · obtain ⟨k1, k2⟩ := st_mem.1 k
      have := h.ok.one f k1 e he q
      rw [this, hg] at k2; cases k2
    · exact new_not h.ok nd o e he q.symm
  rw [this]; rfl
/-- of an op that adds: its dot was not known, it is, and it is live -/
theorem new_law {c : Crt} {nd : Int} {o : Op3} (hc : c.1.length = 8) (hb : ∀ n ∈ c.1, 0 ≤ n ∧ n < 18446744073709551616) (h : Did c nd o) (ho : o.1 < 3) : (doF c nd o).1.2.2.2.2.1 = newD c.1 nd ∧ hasF c.1 (newD c.1 nd) = false ∧ hasF (doF c nd o).1.1.1 (newD c.1 nd) = true ∧ newD c.1 nd ∈ liveF (doF c nd o).1.1.2 := by
  have hm := of_decide_eq_true h.may
  have hk := h.okd hc hb
  rcases h.is with ⟨h1, h2, e⟩ | ⟨h1, h2, h3, e⟩
  · have ha := of_decide_eq_false h1
    omega
  · have hh : hasF (withF c.1 (newD c.1 nd)) (newD c.1 nd) = true := by rw [with_has hc hb h.node]; simp
    refine ⟨by rw [e], newD_not _ _, by rw [e]; exact hh, ?_⟩
    rw [hk.live, e]
    refine List.mem_map.2 ⟨newE c.1 nd o, ?_, newE_dot ..⟩
    show _ ∈ sortE _
    rw [sortE_mem, List.mem_append]
    exact .inr (List.mem_singleton.2 rfl)
end Go.Proofs.YtebjmleheiefdaaGreat.Ca
namespace Go.Proofs.YtebjmleheiefdaaGreat.Ca
open Go Go.RowKit Go.Aw Go.Aw.Cart Go.Aw.Ord Go.Sort
set_option linter.unusedVariables false
set_option linter.unusedSimpArgs false
set_option maxRecDepth 8000
set_option maxHeartbeats 4000000
theorem set_right {l : List Dot} (h : l.length ≤ 2000) : dRightF (G.dotsOf l) = true := by
  have := setF_len l
  rw [dof_is h]
  exact dr_of (setF_up l) (fun d hd => (setF_mem.1 hd).2) (by omega)
theorem set_has {l : List Dot} (h : l.length ≤ 2000) {d : Dot} (hd : dotF d = true) : d ∈ G.dotsOf l ↔ d ∈ l := by
  rw [dof_is h, setF_mem]
  exact ⟨fun k => k.1, fun k => ⟨k, hd⟩⟩
theorem set_swap {a b : List Dot} (h : (a ++ b).length ≤ 2000) : G.dotsOf (a ++ b) = G.dotsOf (b ++ a) := by
  rw [dof_is h, dof_is (by rw [List.length_append] at h ⊢; omega)]
  exact setF_ext fun x _ => by rw [List.mem_append, List.mem_append]; exact or_comm
theorem some_has {a b : List Dot} {has : Bool} {d : Dot} : d ∈ someF a b has ↔ d ∈ a ∧ (decide (d ∈ b) == has) = true := List.mem_filter
theorem set_parts {a : List Dot} (p : Dot → Bool) : (setF (a.filter p)).length + (setF (a.filter fun d => !p d)).length = (setF a).length := by
  have e : ∀ q : Dot → Bool, setF (a.filter q) = (setF a).filter q := fun q =>
    up_ext ltD_ir ltD_tr (setF_up _) ((setF_up a).sublist List.filter_sublist) fun x => by
      rw [setF_mem, List.mem_filter, List.mem_filter, setF_mem]
      exact ⟨fun ⟨⟨h1, h2⟩, h3⟩ => ⟨⟨h1, h3⟩, h2⟩, fun ⟨⟨h1, h3⟩, h2⟩ => ⟨⟨h1, h2⟩, h3⟩⟩
  rw [e, e]
  generalize setF a = l
  induction l with
  | nil => rfl
  | cons x l ih =>
    cases h : p x with
    | true => rw [List.filter_cons_of_pos h, List.filter_cons_of_neg (by rw [h]; simp), List.length_cons, List.length_cons]; omega
    | false => rw [List.filter_cons_of_neg (by rw [h]; simp), List.filter_cons_of_pos (by rw [h]; rfl), List.length_cons, List.length_cons]; omega
theorem set_count {a b : List Dot} (h : a.length ≤ 2000) : (G.dotsOf (someF a b true)).length + (G.dotsOf (someF a b false)).length = (G.dotsOf a).length := by
  rw [dof_is (Nat.le_trans (some_len a b true) h), dof_is (Nat.le_trans (some_len a b false) h), dof_is h, ← set_parts (a := a) (someP b true)]
  congr 3
  unfold someF
  refine List.filter_congr fun d _ => ?_
  unfold someP
  cases decide (d ∈ b) <;> rfl
namespace D8
theorem lopC {C : Ctx} {o : Oper} {σ : St} {e : Eff} {ro : Nat → Bool} (h : LOp C o σ e ro := by
    first
      | exact D7.lopC
      | (apply lop_call2; (focus rfl); (focus exact inferInstance); (focus first | exact lk_m1 rfl | exact lk_m2 rfl | exact lk_m3 rfl | exact lk_o rfl | exact lk_a2 rfl | exact lk_a3 rfl | exact lk_a4 rfl | exact lk_a1 rfl | exact lk_a5 rfl | exact lk_a6 rfl | exact lk_a7 rfl | exact lk_a8 rfl | exact lk_a rfl); (focus exact lk_v8 (by assumption) rfl); (focus exact inferInstance); (focus exact inferInstance); (focus first | exact True.intro | assumption | rfl | omega | ((repeat' (first | assumption | refine And.intro ?_ ?_ | omega | rfl)); done) | fail); (focus rfl))
      | fail) : LOp C o σ e ro := h
section steps
variable {C : Ctx} {ops : Array Oper} {o : Oper} {rest : List Oper} {K : St → Prop} {σ : St} {e : Eff} {ro : Nat → Bool} {W : List (Nat × Nat)} {i : Nat}
theorem rnC {d : Nat} (hk : RunN C ops rest K (e.app (some d) σ)) (hg : Guard ops σ o true := by first | exact gd_n rfl rfl | exact gd_t rfl rfl rfl rfl | exact gd_t rfl rfl rfl (by assumption)) (hd : o.dst = some d := by rfl) (h : LOp C o σ e ro := by exact lopC) : RunN C ops (o :: rest) K σ := rn_any hg hd h hk
theorem rkC {d : Nat} (hk : RunK C ops W (i + 1) rest K (e.app (some d) σ)) (hg : Guard ops σ o true := by first | exact gd_n rfl rfl | exact gd_t rfl rfl rfl rfl | exact gd_t rfl rfl rfl (by assumption)) (hd' : o.dst = some d := by rfl) (hd : dOk C o.dst = true := by rfl) (h : LOp C o σ e ro := by exact lopC)
    (hro : ∀ x, ro x = true → okObj ops W i x = true := by first | exact fun _ => ro_none | exact ro_one rfl | exact ro_k1 rfl | exact ro_one (by kernel_rfl) | exact ro_k1 (by kernel_rfl) | exact ro_kIn (by decide)) (hob : ∀ p ∈ e.obj, (i, p.1) ∈ W := by first | exact ob_none | exact ob_one (by decide) | decide) : RunK C ops W i (o :: rest) K σ := rk_wr hg hd' hd h hro hob hk
end steps
end D8
open D8
/-! whole sets -/
theorem wTo_iff {l : List Dot} : ∀ (n k : Nat), wTo l k n = true ↔ ∀ i, k ≤ i → i < k + n → wOk l i
  | 0, k => ⟨fun _ i h1 h2 => by omega, fun _ => rfl⟩
  | n + 1, k => by
    rw [wTo, Bool.and_eq_true, decide_eq_true_eq, wTo_iff n (k + 1)]
    constructor
    · rintro ⟨h1, h2⟩ i a b
      by_cases e : i = k
      · rw [e]; exact h1
      · exact h2 i (by omega) (by omega)
    · exact fun h => ⟨h k (Nat.le_refl _) (by omega), fun i a b => h i (by omega) (by omega)⟩
theorem wok_new {v : List Int} {d : Dot} (h : nextF v d.1 = (d, 0)) : nodeF d.1 = true ∧ getF v d.1 ≠ 18446744073709551615 ∧ d = newD v d.1 := by
  unfold nextF at h
  split at h
  · cases h
  · rename_i hn
    split at h
    · cases h
    · rename_i hm
      refine ⟨bT hn, hm, ?_⟩
      have h1 := (Prod.mk.inj h).1
      unfold newD; exact h1.symm
theorem span_whole {l : List Dot} (h : wholeF l = true) : ∀ i, i ≤ l.length → (∀ n ∈ spanTo l i, 0 ≤ n ∧ n < 18446744073709551616) ∧ ∀ d, hasF (spanTo l i) d = true ↔ d ∈ l.take i
  | 0, _ => ⟨(by decide : ∀ n ∈ zeroV, (0 : Int) ≤ n ∧ n < 18446744073709551616), fun d => by
    rw [List.take_zero]
    refine ⟨fun k => ?_, fun k => by cases k⟩
    rw [spanTo, has_zero] at k; cases k⟩
  | i + 1, hi => by
    obtain ⟨h1, h2⟩ := span_whole h i (by omega)
    have hw : wOk l i := by
      unfold wholeF at h
      rw [Bool.and_eq_true] at h
      exact (wTo_iff l.length 0).1 h.1 i (Nat.zero_le _) (by omega)
    obtain ⟨k1, k2, k3⟩ := wok_new hw
    have hd := next_dot hw h1
    have e : spanTo l (i + 1) = withF (spanTo l i) (newD (spanTo l i) (l.getD i default).1) := by rw [spanTo, if_pos hd, ← k3]
    have h8 := spanTo_len l i
    refine ⟨?_, fun d => ?_⟩
    · rw [e, with_is k1]
      intro n hn
      obtain ⟨g1, g2⟩ := getF_in h1 (l.getD i default).1
      rcases List.mem_or_eq_of_mem_set hn with q | rfl
      · exact h1 n q
      · omega
    · rw [e, with_has h8 h1 k1, Bool.or_eq_true, decide_eq_true_eq, h2 d, take_get' (by omega), List.mem_append, List.mem_singleton, ← k3]
theorem whole_law {l : List Dot} (h : wholeF l = true) : (∀ d, hasF (spanTo l l.length) d = decide (d ∈ l)) ∧ (l.filter fun d => hasF (spanTo l l.length) d) = l := by
  have := (span_whole h l.length (Nat.le_refl _)).2
  rw [List.take_length] at this
  refine ⟨fun d => ?_, List.filter_eq_self.2 fun d hd => (this d).2 hd⟩
  rw [Bool.eq_iff_iff, this d, decide_eq_true_eq]
end Go.Proofs.YtebjmleheiefdaaGreat.Ca
namespace Go.Proofs.YtebjmleheiefdaaGreat.Ca
open Go Go.RowKit Go.Aw Go.Aw.Cart Go.Aw.Ord Go.Sort
set_option linter.unusedVariables false
set_option linter.unusedSimpArgs false
set_option maxRecDepth 8000
set_option maxHeartbeats 4000000
theorem getF_with {v : List Int} {d : Dot} {n : Int} (hv : v.length = 8) (hd : nodeF d.1 = true) : getF (withF v d) n = if n = d.1 then (if getF v n < d.2 then d.2 else getF v n) else getF v n := by
  have h1 := of_decide_eq_true hd
  unfold getF withF
  rw [if_pos hd]
  by_cases hn : 1 ≤ n ∧ n ≤ 8
  · rw [if_pos hn, if_pos hn, List.getD_eq_getElem?_getD, List.getElem?_set]
    by_cases e : n = d.1
    · subst e
      rw [if_pos rfl, if_pos (by omega), if_pos rfl]; rfl
    · rw [if_neg (by omega), if_neg e, ← List.getD_eq_getElem?_getD]
  · rw [if_neg hn, if_neg hn, if_neg (by omega)]
theorem zero_get : ∀ k, zeroV.getD k default = 0
  | 0 => rfl | 1 => rfl | 2 => rfl | 3 => rfl | 4 => rfl | 5 => rfl | 6 => rfl | 7 => rfl
  | k + 8 => rfl
theorem span_nn (l : List Dot) : ∀ i, ∀ n ∈ spanTo l i, 0 ≤ n
  | 0 => (by decide : ∀ n ∈ zeroV, (0 : Int) ≤ n)
  | i + 1 => by
    rw [spanTo]
    split
    · rename_i hd
      have h1 := of_decide_eq_true hd
      unfold withF
      rw [if_pos (show nodeF (l.getD i default).1 = true from decide_eq_true ⟨h1.1, h1.2.1⟩)]
      intro n hn
      rcases List.mem_or_eq_of_mem_set hn with k | rfl
      · exact span_nn l i n k
      · split <;> omega
    · exact span_nn l i
theorem span_pos (l : List Dot) (i : Nat) (n : Int) : 0 ≤ getF (spanTo l i) n := by
  unfold getF
  split
  · rename_i hn
    have hi : (n - 1).toNat < (spanTo l i).length := by rw [spanTo_len]; omega
    rw [getD_at hi]; exact span_nn l i _ (List.getElem_mem _)
  · exact Int.le_refl _
theorem drTo_iff {l : List Dot} : ∀ (n k : Nat), drTo l k n = true ↔ ∀ i, k ≤ i → i < k + n → drow l i = true
  | 0, k => ⟨fun _ i h1 h2 => by omega, fun _ => rfl⟩
  | n + 1, k => by
    rw [drTo, Bool.and_eq_true, drTo_iff n (k + 1)]
    constructor
    · rintro ⟨h1, h2⟩ i a b
      by_cases e : i = k
      · rw [e]; exact h1
      · exact h2 i (by omega) (by omega)
    · exact fun h => ⟨h k (Nat.le_refl _) (by omega), fun i a b => h i (by omega) (by omega)⟩
theorem dr_is {l : List Dot} (h : dRightF l = true) : l.Pairwise ltD ∧ (∀ d ∈ l, dotF d = true) ∧ l.length ≤ 2000 := by
  unfold dRightF at h
  rw [Bool.and_eq_true, decide_eq_true_eq] at h
  have h1 := (drTo_iff l.length 0).1 h.1
  have hd : ∀ d ∈ l, dotF d = true := fun d hd => by
    obtain ⟨i, hi, e⟩ := List.getElem_of_mem hd
    have := h1 i (Nat.zero_le _) (by omega)
    unfold drow at this
    rw [Bool.and_eq_true, getD_at hi, e] at this
    exact this.1
  have ha : ∀ i, (hi : i + 1 < l.length) → ltD l[i] l[i + 1] := fun i hi => by
    have := h1 (i + 1) (Nat.zero_le _) (by omega)
    unfold drow at this
    rw [Bool.and_eq_true, Bool.or_eq_true, decide_eq_true_eq, decide_eq_true_eq] at this
    rcases this.2 with q | q
    · omega
    · rw [show i + 1 - 1 = i by omega, getD_at hi, getD_at (show i < l.length by omega)] at q
      exact cmpD_lt.1 q
  refine ⟨List.pairwise_iff_getElem.2 ?_, hd, h.2⟩
  intro i j hi hj hij
  obtain ⟨n, rfl⟩ : ∃ n, j = i + 1 + n := ⟨j - (i + 1), by omega⟩
  clear hij
  induction n with
  | zero => exact ha i hj
  | succ n ih => exact ltD_tr _ _ _ (ih (by omega)) (ha (i + 1 + n) hj)
theorem span_le {l : List Dot} {n : Int} {B : Int} (hB : 0 ≤ B) : ∀ i, (∀ j, j < i → (l.getD j default).1 = n → (l.getD j default).2 ≤ B) → getF (spanTo l i) n ≤ B
  | 0, _ => by
    rw [spanTo]; unfold getF
    split
    · rw [zero_get]; exact hB
    · exact hB
  | i + 1, h => by
    have ih := span_le hB i fun j hj => h j (by omega)
    have hi := h i (by omega)
    rw [spanTo]
    split
    · rename_i hd
      have h1 := of_decide_eq_true hd
      rw [getF_with (spanTo_len l i) (decide_eq_true ⟨h1.1, h1.2.1⟩)]
      split
      · rename_i e
        split
        · exact hi e.symm
        · exact ih
      · exact ih
    · exact ih
theorem span_mono {l : List Dot} {n : Int} (i : Nat) : getF (spanTo l i) n ≤ getF (spanTo l (i + 1)) n := by
  rw [spanTo]
  split
  · rename_i hd
    have h1 := of_decide_eq_true hd
    rw [getF_with (spanTo_len l i) (decide_eq_true ⟨h1.1, h1.2.1⟩)]
    split
    · split
      · omega
      · exact Int.le_refl _
    · exact Int.le_refl _
  · exact Int.le_refl _
theorem span_ge {l : List Dot} {j : Nat} (hd : dotF (l.getD j default) = true) : ∀ i, j < i → (l.getD j default).2 ≤ getF (spanTo l i) (l.getD j default).1
  | i + 1, h => by
    by_cases e : j = i
    · subst e
      have h1 := of_decide_eq_true hd
      rw [spanTo, if_pos hd, getF_with (spanTo_len l j) (decide_eq_true ⟨h1.1, h1.2.1⟩), if_pos rfl]
      split <;> omega
    · exact Int.le_trans (span_ge hd i (by omega)) (span_mono i)
/-- the dot ahead is there, too -/
def gapF (l : List Dot) (d : Dot) : Bool := decide (0 < d.2 - 1) && !decide ((d.1, d.2 - 1) ∈ l)
theorem whole_is {l : List Dot} (hb : ∀ d ∈ l, d.2 < 18446744073709551616) : wholeF l = (dRightF l && l.all fun d => !gapF l d) := by
  rw [Bool.eq_iff_iff]
  constructor
  · intro h
    have hr : dRightF l = true := by unfold wholeF at h; rw [Bool.and_eq_true] at h; exact h.2
    rw [hr, Bool.true_and, List.all_eq_true]
    intro d hd
    obtain ⟨i, hi, e⟩ := List.getElem_of_mem hd
    have hw : wOk l i := by
      unfold wholeF at h
      rw [Bool.and_eq_true] at h
      exact (wTo_iff l.length 0).1 h.1 i (Nat.zero_le _) (by omega)
    obtain ⟨h1, h2⟩ := span_whole h i (by omega)
    obtain ⟨k1, k2, k3⟩ := wok_new hw
    have e' : l.getD i default = d := by rw [getD_at hi, e]
    rw [e'] at k1 k2 k3
    have q2 : d.2 = getF (spanTo l i) d.1 + 1 := by
      have := congrArg Prod.snd k3
      exact this
    unfold gapF
    by_cases hz : 0 < d.2 - 1
    · have : hasF (spanTo l i) (d.1, d.2 - 1) = true := by
        unfold hasF dotF
        have n1 := of_decide_eq_true k1
        rw [decide_eq_true (show 1 ≤ d.1 ∧ d.1 ≤ 8 ∧ 0 < d.2 - 1 from ⟨n1.1, n1.2, hz⟩), Bool.true_and]
        exact decide_eq_true (show d.2 - 1 ≤ getF (spanTo l i) d.1 by omega)
      have hm := (h2 _).1 this
      rw [decide_eq_true (List.mem_of_mem_take hm)]
      simp
    · rw [decide_eq_false hz]; rfl
  · intro h
    rw [Bool.and_eq_true, List.all_eq_true] at h
    obtain ⟨hr, hg⟩ := h
    unfold wholeF
    rw [hr, Bool.and_true, wTo_iff]
    intro i _ hi
    obtain ⟨hup, hdot, _⟩ := dr_is hr
    have hil : i < l.length := by omega
    have em : l.getD i default = l[i] := getD_at hil
    have hm : l[i] ∈ l := List.getElem_mem hil
    have hdi := hdot _ hm
    have hgi := hg _ hm
    have hbi := hb _ hm
    have n1 := of_decide_eq_true hdi
    have up : ∀ j, j < i → ltD (l.getD j default) l[i] := fun j hj => by
      rw [getD_at (show j < l.length by omega)]
      exact List.pairwise_iff_getElem.1 hup j i (by omega) hil hj
    have g1 : getF (spanTo l i) l[i].1 ≤ l[i].2 - 1 := span_le (by omega) i fun j hj e => by
      have := up j hj
      unfold ltD at this
      omega
    have g2 : l[i].2 - 1 ≤ getF (spanTo l i) l[i].1 := by
      unfold gapF at hgi
      by_cases hz : 0 < l[i].2 - 1
      · rw [decide_eq_true hz, Bool.true_and, Bool.not_not, decide_eq_true_eq] at hgi
        obtain ⟨j, hj, ej⟩ := List.getElem_of_mem hgi
        have ej' : l.getD j default = (l[i].1, l[i].2 - 1) := by rw [getD_at hj, ej]
        have hji : j < i := by
          rcases Nat.lt_trichotomy j i with q | q | q
          · exact q
          · subst q; rw [em] at ej'; have := congrArg Prod.snd ej'; simp only at this; omega
          · have := List.pairwise_iff_getElem.1 hup i j hil hj q
            rw [ej] at this
            unfold ltD at this
            simp only at this
            omega
        have := span_ge (l := l) (j := j) (by rw [ej']; exact decide_eq_true ⟨n1.1, n1.2.1, hz⟩) i hji
        rw [ej'] at this
        exact this
      · have := span_pos l i l[i].1
        omega
    unfold wOk nextF
    rw [em, if_neg (by rw [show nodeF l[i].1 = true from decide_eq_true ⟨n1.1, n1.2.1⟩]; simp), if_neg (by omega)]
    rw [show getF (spanTo l i) l[i].1 + 1 = l[i].2 by omega]
end Go.Proofs.YtebjmleheiefdaaGreat.Ca
namespace Go.Proofs.YtebjmleheiefdaaGreat.Ca
open Go Go.RowKit Go.Aw Go.Aw.Cart Go.Aw.Ord Go.Sort
set_option linter.unusedVariables false
set_option linter.unusedSimpArgs false
set_option maxRecDepth 8000
set_option maxHeartbeats 4000000
/-- an add or a set -/
def addsE (x : Evt) : Bool := decide (x.1 = 1 ∨ x.1 = 2)
abbrev Evt.dot (x : Evt) : Dot := x.2.2.2.1
abbrev Evt.off (x : Evt) : List Dot := x.2.2.2.2
/-- an event that may be -/
def evR (x : Evt) : Bool := (dRightF (Evt.off x) && !decide (Evt.dot x ∈ Evt.off x)) && (!(decide (x.1 = 1) && decide (0 < (Evt.off x).length)) && (if addsE x = true then mayF (x.1, x.2.1, x.2.2.1) && dotF (Evt.dot x) else decide ((x.1 = 3 ∨ x.1 = 4) ∧ x.2.1 = 0 ∧ x.2.2.1 = 0 ∧ Evt.dot x = (0, 0))))
def mkE (x : Evt) : Bool := addsE x && evR x
def mDots (l : List Evt) : List Dot := G.dotsOf ((l.filter mkE).map Evt.dot)
def mOff (l : List Evt) : List Dot := l.flatMap Evt.off
def clX (x y : Evt) : Bool := addsE y && (decide (Evt.dot x = Evt.dot y) && !decide (x = y))
def mClash (l : List Evt) : Bool := decide (∃ i, i < l.length ∧ (addsE (l.getD i default) && (l.take i).any (clX (l.getD i default))) = true)
def mWhole (l : List Evt) : Bool := !(l.any fun x => !evR x) && (!mClash l && (wholeF (mDots l) && !((mOff l).any fun d => !decide (d ∈ mDots l))))
/-- each once -/
def uTo (l : List Evt) : Nat → List Evt
  | 0 => []
  | i + 1 => if l.getD i default ∈ uTo l i then uTo l i else uTo l i ++ [l.getD i default]
def mUnion (a b : List Evt) : List Evt := uTo (a ++ b) (a ++ b).length
def entOf (x : Evt) : Ent := (x.2.1, (Evt.dot x).1, (Evt.dot x).2, x.2.2.1)
def inF (l : List Evt) (x : Evt) : Bool := addsE x && !decide (Evt.dot x ∈ mOff l)
def outE (l : List Evt) : List Ent := ((mUnion l []).filter (inF l)).map entOf
def mCart (l : List Evt) : Crt × Int :=
  if mWhole l = false then ((zeroV, []), 7) else
  if 400 < (outE l).length then ((zeroV, []), 5) else
  ((spanTo (mDots l) (mDots l).length, sortE (outE l)), 0)
theorem uTo_len {l : List Evt} : ∀ i, (uTo l i).length ≤ i
  | 0 => Nat.le_refl _
  | i + 1 => by
    have := uTo_len (l := l) i
    rw [uTo]; split
    · omega
    · rw [List.length_append, List.length_singleton]; omega
theorem uTo_is {l : List Evt} : ∀ i, i ≤ l.length → (uTo l i).Nodup ∧ ∀ x, x ∈ uTo l i ↔ x ∈ l.take i
  | 0, _ => ⟨List.nodup_nil, fun x => by rw [uTo, List.take_zero]⟩
  | i + 1, h => by
    obtain ⟨h1, h2⟩ := uTo_is (l := l) i (by omega)
    rw [uTo, take_get' (by omega)]
    split
    · rename_i hm
      refine ⟨h1, fun x => ?_⟩
      rw [h2, List.mem_append, List.mem_singleton]
      exact ⟨.inl, fun k => k.elim id fun e => by rw [e]; exact (h2 _).1 hm⟩
    · rename_i hm
      refine ⟨List.nodup_append.2 ⟨h1, List.nodup_cons.2 ⟨by simp, List.nodup_nil⟩, fun x hx y hy e => ?_⟩, fun x => ?_⟩
      · rw [List.mem_singleton.1 hy] at e; rw [e] at hx; exact hm hx
      · rw [List.mem_append, List.mem_append, h2]
theorem union_nodup (a b : List Evt) : (mUnion a b).Nodup := (uTo_is _ (Nat.le_refl _)).1
theorem union_mem {a b : List Evt} {x : Evt} : x ∈ mUnion a b ↔ x ∈ a ∨ x ∈ b := by
  unfold mUnion
  rw [(uTo_is _ (Nat.le_refl _)).2, List.take_length, List.mem_append]
theorem union_len (a b : List Evt) : (mUnion a b).length ≤ a.length + b.length := by
  have := uTo_len (l := a ++ b) (a ++ b).length
  unfold mUnion; rw [List.length_append] at this ⊢; exact this
theorem off_in {l : List Evt} {d : Dot} : d ∈ mOff l ↔ ∃ x ∈ l, d ∈ Evt.off x := List.mem_flatMap
theorem mk_dot {x : Evt} (h : mkE x = true) : dotF (Evt.dot x) = true := by
  unfold mkE at h
  rw [Bool.and_eq_true] at h
  have h2 := h.2
  unfold evR at h2
  rw [if_pos h.1, Bool.and_eq_true, Bool.and_eq_true, Bool.and_eq_true, Bool.and_eq_true] at h2
  exact h2.2.2.2
theorem mk_may {x : Evt} (h : mkE x = true) : mayF (x.1, x.2.1, x.2.2.1) = true := by
  unfold mkE at h
  rw [Bool.and_eq_true] at h
  have h2 := h.2
  unfold evR at h2
  rw [if_pos h.1, Bool.and_eq_true, Bool.and_eq_true, Bool.and_eq_true, Bool.and_eq_true] at h2
  exact h2.2.2.1
theorem dots_in {l : List Evt} (hl : l.length ≤ 2000) {d : Dot} : d ∈ mDots l ↔ ∃ x ∈ l, mkE x = true ∧ Evt.dot x = d := by
  have h2 : ((l.filter mkE).map Evt.dot).length ≤ 2000 := by rw [List.length_map]; exact Nat.le_trans (List.length_filter_le _ _) hl
  unfold mDots
  rw [dof_is h2, setF_mem, List.mem_map]
  constructor
  · rintro ⟨⟨x, hx, e⟩, _⟩
    obtain ⟨h3, h4⟩ := List.mem_filter.1 hx
    exact ⟨x, h3, h4, e⟩
  · rintro ⟨x, h3, h4, e⟩
    exact ⟨⟨x, List.mem_filter.2 ⟨h3, h4⟩, e⟩, by rw [← e]; exact mk_dot h4⟩
theorem dots_ext {l m : List Evt} (hl : l.length ≤ 2000) (hm : m.length ≤ 2000) (h : ∀ x, x ∈ l ↔ x ∈ m) : mDots l = mDots m := by
  have k : ∀ n : List Evt, n.length ≤ 2000 → mDots n = setF ((n.filter mkE).map Evt.dot) := fun n hn => by
    unfold mDots; exact dof_is (by rw [List.length_map]; exact Nat.le_trans (List.length_filter_le _ _) hn)
  rw [k l hl, k m hm]
  refine setF_ext fun d _ => ?_
  rw [List.mem_map, List.mem_map]
  constructor <;> rintro ⟨x, hx, e⟩ <;> obtain ⟨h3, h4⟩ := List.mem_filter.1 hx
  · exact ⟨x, List.mem_filter.2 ⟨(h x).1 h3, h4⟩, e⟩
  · exact ⟨x, List.mem_filter.2 ⟨(h x).2 h3, h4⟩, e⟩
/-- a whole list -/
structure MW (l : List Evt) : Prop where
  ev : ∀ x ∈ l, evR x = true
  one : ∀ x ∈ l, ∀ y ∈ l, addsE x = true → addsE y = true → Evt.dot x = Evt.dot y → x = y
  whole : wholeF (mDots l) = true
  off : ∀ d ∈ mOff l, d ∈ mDots l
theorem mWhole_iff {l : List Evt} : mWhole l = true ↔ MW l := by
  unfold mWhole mClash
  simp only [Bool.and_eq_true, Bool.not_eq_true', decide_eq_false_iff_not, List.any_eq_false, Bool.not_eq_true]
  constructor
  · rintro ⟨h1, h2, h3, h4⟩
    refine ⟨fun x hx => by have := h1 x hx; simpa using this, ?_, h3, fun d hd => by have := h4 d hd; simpa using this⟩
    have key : ∀ i j, j < i → i < l.length → addsE (l.getD i default) = true → addsE (l.getD j default) = true → Evt.dot (l.getD i default) = Evt.dot (l.getD j default) → l.getD i default = l.getD j default := by
      intro i j hj hi a1 a2 e
      by_cases q : l.getD i default = l.getD j default
      · exact q
      · refine absurd ⟨i, hi, ?_⟩ h2
        rw [List.any_eq_true]
        refine ⟨a1, l.getD j default, ?_, ?_⟩
        · rw [getD_at (show j < l.length by omega)]
          exact List.mem_take_iff_getElem.2 ⟨j, by omega, rfl⟩
        · unfold clX
          rw [a2, decide_eq_true e, decide_eq_false q]; rfl
    intro x hx y hy a1 a2 e
    obtain ⟨i, hi, rfl⟩ := getD_mem hx
    obtain ⟨j, hj, rfl⟩ := getD_mem hy
    rcases Nat.lt_trichotomy j i with q | q | q
    · exact key i j q hi a1 a2 e
    · rw [q]
    · exact (key j i q hj a2 a1 e.symm).symm
  · intro h
    refine ⟨fun x hx => by simp [h.ev x hx], ?_, h.whole, fun d hd => by simp [h.off d hd]⟩
    rintro ⟨i, hi, hc⟩
    rw [List.any_eq_true] at hc
    obtain ⟨a1, y, hy, hc⟩ := hc
    unfold clX at hc
    simp only [Bool.and_eq_true, decide_eq_true_eq, Bool.not_eq_true', decide_eq_false_iff_not] at hc
    exact hc.2.2 (h.one _ (by rw [getD_at hi]; exact List.getElem_mem _) y (List.mem_of_mem_take hy) a1 hc.1 hc.2.1)
theorem off_ext {l m : List Evt} (h : ∀ x, x ∈ l ↔ x ∈ m) (d : Dot) : d ∈ mOff l ↔ d ∈ mOff m := by
  rw [off_in, off_in]
  exact ⟨fun ⟨x, a, b⟩ => ⟨x, (h x).1 a, b⟩, fun ⟨x, a, b⟩ => ⟨x, (h x).2 a, b⟩⟩
theorem MW.ext {l m : List Evt} (hl : l.length ≤ 2000) (hm : m.length ≤ 2000) (h : ∀ x, x ∈ l ↔ x ∈ m) (w : MW l) : MW m where
  ev x hx := w.ev x ((h x).2 hx)
  one x hx y hy := w.one x ((h x).2 hx) y ((h y).2 hy)
  whole := by rw [← dots_ext hl hm h]; exact w.whole
  off d hd := by rw [← dots_ext hl hm h]; exact w.off d ((off_ext h d).2 hd)
theorem MW.mk' {l : List Evt} (w : MW l) {x : Evt} (hx : x ∈ l) (ha : addsE x = true) : mkE x = true := by unfold mkE; rw [ha, w.ev x hx]; rfl
theorem MW.dot {l : List Evt} (w : MW l) (hl : l.length ≤ 2000) {d : Dot} : d ∈ mDots l ↔ ∃ x ∈ l, addsE x = true ∧ Evt.dot x = d := by
  rw [dots_in hl]
  constructor
  · rintro ⟨x, h1, h2, h3⟩; unfold mkE at h2; rw [Bool.and_eq_true] at h2; exact ⟨x, h1, h2.1, h3⟩
  · rintro ⟨x, h1, h2, h3⟩; exact ⟨x, h1, w.mk' h1 h2, h3⟩
theorem out_mem {l : List Evt} {e : Ent} : e ∈ outE l ↔ ∃ x ∈ l, (addsE x = true ∧ Evt.dot x ∉ mOff l) ∧ entOf x = e := by
  unfold outE
  rw [List.mem_map]
  constructor
  · rintro ⟨x, hx, e⟩
    obtain ⟨h1, h2⟩ := List.mem_filter.1 hx
    unfold inF at h2
    simp only [Bool.and_eq_true, Bool.not_eq_true', decide_eq_false_iff_not] at h2
    exact ⟨x, (union_mem.1 h1).elim id (fun k => by cases k), h2, e⟩
  · rintro ⟨x, h1, h2, e⟩
    refine ⟨x, List.mem_filter.2 ⟨union_mem.2 (.inl h1), ?_⟩, e⟩
    unfold inF
    simp only [Bool.and_eq_true, Bool.not_eq_true', decide_eq_false_iff_not]
    exact h2
theorem ent_dot (x : Evt) : dotE (entOf x) = Evt.dot x := rfl
theorem MW.out_nodup {l : List Evt} (w : MW l) : (outE l).Nodup := by
  unfold outE
  refine (nodup_map ((union_nodup l []).sublist List.filter_sublist)).2 fun x hx y hy e => ?_
  have m : ∀ z, z ∈ (mUnion l []).filter (inF l) → z ∈ l ∧ addsE z = true := fun z hz => by
    obtain ⟨h1, h2⟩ := List.mem_filter.1 hz
    unfold inF at h2
    rw [Bool.and_eq_true] at h2
    exact ⟨(union_mem.1 h1).elim id (fun k => by cases k), h2.1⟩
  have ed := congrArg dotE e
  rw [ent_dot, ent_dot] at ed
  exact w.one x (m x hx).1 y (m y hy).1 (m x hx).2 (m y hy).2 ed
theorem out_len (l : List Evt) : (outE l).length ≤ l.length := by
  unfold outE
  rw [List.length_map]
  refine Nat.le_trans (List.length_filter_le _ _) ?_
  have := union_len l []
  rw [List.length_nil, Nat.add_zero] at this; exact this
/-- the cart of a whole list -/
theorem cart_of {l : List Evt} (w : MW l) (h : (outE l).length ≤ 400) : mCart l = ((spanTo (mDots l) (mDots l).length, sortE (outE l)), 0) := by
  unfold mCart
  rw [mWhole_iff.2 w, if_neg (by simp), if_neg (by omega)]
theorem cart_is {l : List Evt} (h : (mCart l).2 = 0) : MW l ∧ (outE l).length ≤ 400 := by
  unfold mCart at h
  by_cases h1 : mWhole l = false
  · rw [if_pos h1] at h; cases h
  · rw [if_neg h1] at h
    by_cases h2 : 400 < (outE l).length
    · rw [if_pos h2] at h; cases h
    · exact ⟨mWhole_iff.1 (bT h1), by omega⟩
/-- it does not hang on order, or how often -/
theorem cart_ext {l m : List Evt} (hl : l.length ≤ 2000) (hm : m.length ≤ 2000) (h : ∀ x, x ∈ l ↔ x ∈ m) (w : MW l) (h4 : (outE l).length ≤ 400) : mCart m = mCart l := by
  have w' := w.ext hl hm h
  have hp : (outE m).Perm (outE l) := (List.perm_ext_iff_of_nodup w'.out_nodup w.out_nodup).2 fun e => by
    rw [out_mem, out_mem]
    constructor <;> rintro ⟨x, a, ⟨b, c⟩, d⟩
    · exact ⟨x, (h x).2 a, ⟨b, fun k => c ((off_ext h _).1 k)⟩, d⟩
    · exact ⟨x, (h x).1 a, ⟨b, fun k => c ((off_ext h _).2 k)⟩, d⟩
  rw [cart_of w h4, cart_of w' (by rw [hp.length_eq]; exact h4), dots_ext hl hm h, sortE_of hp]
/-- what a whole list's cart covers -/
theorem MW.has {l : List Evt} (w : MW l) (d : Dot) : hasF (spanTo (mDots l) (mDots l).length) d = decide (d ∈ mDots l) := (whole_law w.whole).1 d
theorem MW.okc {l : List Evt} (w : MW l) (hl : l.length ≤ 2000) (h : (outE l).length ≤ 400) : Ok (spanTo (mDots l) (mDots l).length) (sortE (outE l)) where
  few := by rw [sortE_len]; exact h
  up := sortE_sup w.out_nodup
  ent e he := by
    rw [sortE_mem] at he
    obtain ⟨x, h1, ⟨h2, h3⟩, rfl⟩ := out_mem.1 he
    have hm := of_decide_eq_true (mk_may (w.mk' h1 h2))
    have ha := of_decide_eq_true h2
    simp only at hm
    exact decide_eq_true (by simp only [entOf]; omega)
  has e he := by
    rw [sortE_mem] at he
    obtain ⟨x, h1, ⟨h2, h3⟩, rfl⟩ := out_mem.1 he
    rw [w.has, decide_eq_true_eq, w.dot hl]
    exact ⟨x, h1, h2, rfl⟩
  one e he f hf hd := by
    rw [sortE_mem] at he hf
    obtain ⟨x, h1, ⟨h2, h3⟩, rfl⟩ := out_mem.1 he
    obtain ⟨y, k1, ⟨k2, k3⟩, rfl⟩ := out_mem.1 hf
    rw [w.one x h1 y k1 h2 k2 hd]
/-! vectors that cover the same are one -/
theorem vec_ext {v u : List Int} (hv : v.length = 8) (hu : u.length = 8) (pv : ∀ n ∈ v, 0 ≤ n) (pu : ∀ n ∈ u, 0 ≤ n) (h : ∀ d, hasF v d = hasF u d) : v = u := by
  refine maxV_ext hv hu fun i hi => ?_
  have gv : getF v ((i : Int) + 1) = v.getD i default := by unfold getF; rw [if_pos (by omega)]; congr 1; omega
  have gu : getF u ((i : Int) + 1) = u.getD i default := by unfold getF; rw [if_pos (by omega)]; congr 1; omega
  have av : 0 ≤ v.getD i default := by rw [getD_at (by omega)]; exact pv _ (List.getElem_mem _)
  have au : 0 ≤ u.getD i default := by rw [getD_at (by omega)]; exact pu _ (List.getElem_mem _)
  have k : ∀ n : Int, 0 < n → (n ≤ v.getD i default ↔ n ≤ u.getD i default) := fun n hn => by
    have := h ((i : Int) + 1, n)
    unfold hasF at this
    rw [show dotF ((i : Int) + 1, n) = true from decide_eq_true ⟨by simp only; omega, by simp only; omega, hn⟩, Bool.true_and, Bool.true_and] at this
    simp only [gv, gu] at this
    exact decide_eq_decide.1 this
  rcases Int.lt_trichotomy (v.getD i default) (u.getD i default) with q | q | q
  · have := (k (u.getD i default) (by omega)).2 (Int.le_refl _); omega
  · exact q
  · have := (k (v.getD i default) (by omega)).1 (Int.le_refl _); omega
theorem max_nn {a b : List Int} (ha : ∀ n ∈ a, 0 ≤ n) (hb : ∀ n ∈ b, 0 ≤ n) : ∀ n ∈ maxV a b, 0 ≤ n := by
  intro n hn
  unfold maxV at hn
  obtain ⟨i, hi, rfl⟩ := List.getElem_of_mem hn
  rw [List.getElem_zipWith]
  split
  · exact hb _ (List.getElem_mem _)
  · exact ha _ (List.getElem_mem _)
/-- both lists', of which no two events clash -/
structure UN (a b u : List Evt) : Prop where
  wa : MW a
  wb : MW b
  wu : MW u
  la : a.length ≤ 400
  lb : b.length ≤ 400
  lu : u.length ≤ 2000
  mem : ∀ x, x ∈ u ↔ x ∈ a ∨ x ∈ b
section
variable {a b u : List Evt} (h : UN a b u)
include h
theorem UN.dots (d : Dot) : d ∈ mDots u ↔ d ∈ mDots a ∨ d ∈ mDots b := by
  have := h.la; have := h.lb
  rw [h.wu.dot h.lu, h.wa.dot (by omega), h.wb.dot (by omega)]
  constructor
  · rintro ⟨x, hx, r⟩; exact ((h.mem x).1 hx).elim (fun k => .inl ⟨x, k, r⟩) fun k => .inr ⟨x, k, r⟩
  · rintro (⟨x, hx, r⟩ | ⟨x, hx, r⟩)
    · exact ⟨x, (h.mem x).2 (.inl hx), r⟩
    · exact ⟨x, (h.mem x).2 (.inr hx), r⟩
theorem UN.offs (d : Dot) : d ∈ mOff u ↔ d ∈ mOff a ∨ d ∈ mOff b := by
  rw [off_in, off_in, off_in]
  constructor
  · rintro ⟨x, hx, r⟩; exact ((h.mem x).1 hx).elim (fun k => .inl ⟨x, k, r⟩) fun k => .inr ⟨x, k, r⟩
  · rintro (⟨x, hx, r⟩ | ⟨x, hx, r⟩)
    · exact ⟨x, (h.mem x).2 (.inl hx), r⟩
    · exact ⟨x, (h.mem x).2 (.inr hx), r⟩
theorem UN.outs (e : Ent) : e ∈ outE u ↔ (e ∈ outE a ∧ (e ∈ outE b ∨ dotE e ∉ mDots b)) ∨ (e ∈ outE b ∧ dotE e ∉ mDots a) := by
  have la := h.la; have lb := h.lb
  constructor
  · intro he
    obtain ⟨x, hx, ⟨h2, h3⟩, rfl⟩ := out_mem.1 he
    have h3' : Evt.dot x ∉ mOff a ∧ Evt.dot x ∉ mOff b := ⟨fun k => h3 ((h.offs _).2 (.inl k)), fun k => h3 ((h.offs _).2 (.inr k))⟩
    rcases (h.mem x).1 hx with k | k
    · left
      refine ⟨out_mem.2 ⟨x, k, ⟨h2, h3'.1⟩, rfl⟩, ?_⟩
      by_cases q : dotE (entOf x) ∈ mDots b
      · obtain ⟨y, hy, a2, e⟩ := (h.wb.dot (by omega)).1 q
        have := h.wu.one y ((h.mem y).2 (.inr hy)) x hx a2 h2 e
        subst this
        exact .inl (out_mem.2 ⟨y, hy, ⟨h2, h3'.2⟩, rfl⟩)
      · exact .inr q
    · by_cases q : dotE (entOf x) ∈ mDots a
      · obtain ⟨y, hy, a2, e⟩ := (h.wa.dot (by omega)).1 q
        have := h.wu.one y ((h.mem y).2 (.inl hy)) x hx a2 h2 e
        subst this
        exact .inl ⟨out_mem.2 ⟨y, hy, ⟨h2, h3'.1⟩, rfl⟩, .inl (out_mem.2 ⟨y, k, ⟨h2, h3'.2⟩, rfl⟩)⟩
      · exact .inr ⟨out_mem.2 ⟨x, k, ⟨h2, h3'.2⟩, rfl⟩, q⟩
  · rintro (⟨h1, h2⟩ | ⟨h1, h2⟩)
    · obtain ⟨x, hx, ⟨k2, k3⟩, rfl⟩ := out_mem.1 h1
      refine out_mem.2 ⟨x, (h.mem x).2 (.inl hx), ⟨k2, fun k => ?_⟩, rfl⟩
      rcases (h.offs _).1 k with q | q
      · exact k3 q
      · rcases h2 with h2 | h2
        · obtain ⟨y, hy, ⟨j2, j3⟩, e⟩ := out_mem.1 h2
          have := congrArg dotE e
          rw [ent_dot, ent_dot] at this
          rw [this] at j3; exact j3 q
        · exact h2 (h.wb.off _ q)
    · obtain ⟨x, hx, ⟨k2, k3⟩, rfl⟩ := out_mem.1 h1
      refine out_mem.2 ⟨x, (h.mem x).2 (.inr hx), ⟨k2, fun k => ?_⟩, rfl⟩
      rcases (h.offs _).1 k with q | q
      · exact h2 (h.wa.off _ q)
      · exact k3 q
/-- the union's cart is the join of both -/
theorem UN.join (h4 : (outE u).length ≤ 400) : twoF (mCart a).1 (mCart b).1 = ((mCart u).1, 0) := by
  have la := h.la; have lb := h.lb
  have oa := out_len a; have ob := out_len b
  have ka := h.wa.okc (by omega) (by omega)
  have kb := h.wb.okc (by omega) (by omega)
  rw [cart_of h.wa (by omega), cart_of h.wb (by omega), cart_of h.wu h4]
  have hm : ∀ e, e ∈ bothF (spanTo (mDots a) (mDots a).length, sortE (outE a)) (spanTo (mDots b) (mDots b).length, sortE (outE b)) ↔ e ∈ outE u := fun e => by
    rw [both_mem, h.outs, sortE_mem, sortE_mem, h.wa.has, h.wb.has, decide_eq_false_iff_not, decide_eq_false_iff_not]
  have hp := (List.perm_ext_iff_of_nodup (bothF_nodup (a := (spanTo (mDots a) (mDots a).length, sortE (outE a))) (b := (spanTo (mDots b) (mDots b).length, sortE (outE b))) ka kb) h.wu.out_nodup).2 hm
  have t : Two (spanTo (mDots a) (mDots a).length, sortE (outE a)) (spanTo (mDots b) (mDots b).length, sortE (outE b)) := {
    la := spanTo_len _ _
    lb := spanTo_len _ _
    oa := ka
    ob := kb
    nc := fun e he f hf hd => by
      rw [sortE_mem] at he hf
      obtain ⟨x, h1, ⟨h2, h3⟩, rfl⟩ := out_mem.1 he
      obtain ⟨y, k1, ⟨k2, k3⟩, rfl⟩ := out_mem.1 hf
      rw [h.wu.one x ((h.mem x).2 (.inl h1)) y ((h.mem y).2 (.inr k1)) h2 k2 hd]
    few := by rw [hp.length_eq]; exact h4 }
  rw [t.is, sortE_of hp]
  refine congrArg (fun v => ((v, sortE (outE u)), (0 : Int))) ?_
  refine vec_ext (maxV_len (spanTo_len _ _) (spanTo_len _ _)) (spanTo_len _ _) (max_nn (span_nn _ _) (span_nn _ _)) (span_nn _ _) fun d => ?_
  rw [has_max (spanTo_len _ _) (spanTo_len _ _), h.wa.has, h.wb.has, h.wu.has, Bool.eq_iff_iff, Bool.or_eq_true, decide_eq_true_eq, decide_eq_true_eq, decide_eq_true_eq, h.dots]
end
end Go.Proofs.YtebjmleheiefdaaGreat.Ca
namespace Go.Proofs.YtebjmleheiefdaaGreat.Ca
open Go Go.RowKit Go.Aw Go.Aw.Cart Go.Aw.Ord Go.Sort
set_option linter.unusedVariables false
set_option linter.unusedSimpArgs false
set_option maxRecDepth 8000
set_option maxHeartbeats 4000000
theorem nodup_le {l : List Evt} : ∀ {m : List Evt}, l.Nodup → (∀ x ∈ l, x ∈ m) → l.length ≤ m.length := by
  induction l with
  | nil => intro m _ _; exact Nat.zero_le _
  | cons a l ih =>
    intro m hn hs
    rw [List.nodup_cons] at hn
    have ha : a ∈ m := hs a List.mem_cons_self
    have h1 := ih (m := m.erase a) hn.2 fun x hx => (List.mem_erase_of_ne (fun e => hn.1 (by rw [← e]; exact hx))).2 (hs x (List.mem_cons_of_mem _ hx))
    rw [List.length_erase_of_mem ha] at h1
    have : 0 < m.length := List.length_pos_of_mem ha
    rw [List.length_cons]; omega
abbrev U64 : Int := 18446744073709551616
theorem span_bnd {l : List Dot} (h : ∀ d ∈ l, d.2 < 18446744073709551616) : ∀ i, ∀ n ∈ spanTo l i, 0 ≤ n ∧ n < 18446744073709551616
  | 0 => (by decide : ∀ n ∈ zeroV, (0 : Int) ≤ n ∧ n < 18446744073709551616)
  | i + 1 => by
    rw [spanTo]
    split
    · rename_i hd
      have h1 := of_decide_eq_true hd
      by_cases hi : i < l.length
      · have hb := h (l.getD i default) (by rw [getD_at hi]; exact List.getElem_mem _)
        unfold withF
        rw [if_pos (show nodeF (l.getD i default).1 = true from decide_eq_true ⟨h1.1, h1.2.1⟩)]
        intro n hn
        rcases List.mem_or_eq_of_mem_set hn with k | rfl
        · exact span_bnd h i n k
        · split
          · omega
          · have hj : ((l.getD i default).1 - 1).toNat < (spanTo l i).length := by rw [spanTo_len]; omega
            rw [getD_at hj]; exact span_bnd h i _ (List.getElem_mem _)
      · exfalso
        rw [List.getD_eq_getElem?_getD, List.getElem?_eq_none (by omega)] at h1
        have := h1.2.2
        exact absurd this (by decide)
    · exact span_bnd h i
/-- dots that the model can hold -/
def EBd (l : List Evt) : Prop := ∀ x ∈ l, (Evt.dot x).2 < 18446744073709551616
theorem mDots_bd {l : List Evt} (hl : l.length ≤ 2000) (h : EBd l) : ∀ d ∈ mDots l, d.2 < 18446744073709551616 := fun d hd => by
  obtain ⟨x, hx, _, rfl⟩ := (dots_in hl).1 hd
  exact h x hx
theorem mDots_right {l : List Evt} (hl : l.length ≤ 2000) : dRightF (mDots l) = true := by
  unfold mDots
  exact set_right (by rw [List.length_map]; exact Nat.le_trans (List.length_filter_le _ _) hl)
/-- whole: nothing is lacking -/
theorem whole_closed {l : List Evt} (hl : l.length ≤ 2000) (hb : EBd l) : wholeF (mDots l) = true ↔ ∀ d ∈ mDots l, 0 < d.2 - 1 → (d.1, d.2 - 1) ∈ mDots l := by
  rw [whole_is (mDots_bd hl hb), mDots_right hl, Bool.true_and, List.all_eq_true]
  constructor
  · intro h d hd hz
    have := h d hd
    unfold gapF at this
    rw [decide_eq_true hz, Bool.true_and, Bool.not_not, decide_eq_true_eq] at this
    exact this
  · intro h d hd
    unfold gapF
    by_cases hz : 0 < d.2 - 1
    · rw [decide_eq_true (h d hd hz)]; simp
    · rw [decide_eq_false hz]; rfl
/-- two whole lists that do not clash are whole together -/
theorem MW.union {a b : List Evt} (wa : MW a) (wb : MW b) (la : a.length ≤ 100) (lb : b.length ≤ 100) (ba : EBd a) (bb : EBd b)
    (nc : ∀ x y, (x ∈ a ∨ x ∈ b) → (y ∈ a ∨ y ∈ b) → addsE x = true → addsE y = true → Evt.dot x = Evt.dot y → x = y) : MW (mUnion a b) := by
  have ul := union_len a b
  have ev : ∀ x ∈ mUnion a b, evR x = true := fun x hx => (union_mem.1 hx).elim (wa.ev x) (wb.ev x)
  have dm : ∀ d, d ∈ mDots (mUnion a b) ↔ d ∈ mDots a ∨ d ∈ mDots b := fun d => by
    rw [dots_in (by omega), dots_in (by omega), dots_in (by omega)]
    constructor
    · rintro ⟨x, hx, r⟩; exact (union_mem.1 hx).elim (fun k => .inl ⟨x, k, r⟩) fun k => .inr ⟨x, k, r⟩
    · rintro (⟨x, hx, r⟩ | ⟨x, hx, r⟩)
      · exact ⟨x, union_mem.2 (.inl hx), r⟩
      · exact ⟨x, union_mem.2 (.inr hx), r⟩
  have bu : EBd (mUnion a b) := fun x hx => (union_mem.1 hx).elim (ba x) (bb x)
  refine ⟨ev, fun x hx y hy => nc x y (union_mem.1 hx) (union_mem.1 hy), ?_, ?_⟩
  · rw [whole_closed (by omega) bu]
    intro d hd hz
    rcases (dm d).1 hd with k | k
    · exact (dm _).2 (.inl ((whole_closed (by omega) ba).1 wa.whole d k hz))
    · exact (dm _).2 (.inr ((whole_closed (by omega) bb).1 wb.whole d k hz))
  · intro d hd
    obtain ⟨x, hx, hdx⟩ := off_in.1 hd
    rcases union_mem.1 hx with k | k
    · exact (dm d).2 (.inl (wa.off d (off_in.2 ⟨x, k, hdx⟩)))
    · exact (dm d).2 (.inr (wb.off d (off_in.2 ⟨x, k, hdx⟩)))
/-! an op -/
section
variable {K : List Evt} {nd : Int} {o : Op3} (w : MW K) (hl : K.length ≤ 100) (hb : EBd K)
/-- the cart of what is known -/
abbrev crt (K : List Evt) : Crt := (spanTo (mDots K) (mDots K).length, sortE (outE K))
include w hl in
theorem crt_ok : Ok (crt K).1 (crt K).2 := w.okc (by omega) (by have := out_len K; omega)
include w hl in
theorem off_known (d : Dot) (hd : d ∈ offF o (crt K).2) : d ∈ mDots K ∧ dotF d = true := by
  have ok := crt_ok w hl
  obtain ⟨e, he, _, rfl⟩ := (off_mem ok).1 hd
  have := ok.has e he
  rw [w.has, decide_eq_true_eq] at this
  exact ⟨this, ok.dot he⟩
include w in
theorem new_unknown : newD (crt K).1 nd ∉ mDots K := fun h => by
  have := w.has (newD (crt K).1 nd)
  rw [decide_eq_true h, newD_not] at this; cases this
include w hl in
theorem evR_new (hd : Did (crt K) nd o) (ha : addsF o = true) : evR (o.1, o.2.1, o.2.2, newD (crt K).1 nd, offF o (crt K).2) = true := by
  have ok := crt_ok w hl
  have h12 := of_decide_eq_true ha
  have hn := of_decide_eq_true hd.node
  have hf := ok.few
  have h1 : newD (crt K).1 nd ∉ offF o (crt K).2 := fun h => new_unknown w ((off_known w hl _ h).1)
  have h2 : o.1 = 1 → (offF o (crt K).2).length = 0 := fun e => by
    rw [List.length_eq_zero_iff]
    refine List.eq_nil_iff_forall_not_mem.2 fun d hd => ?_
    obtain ⟨e', _, hg, _⟩ := (off_mem ok).1 hd
    have := of_decide_eq_true hg
    omega
  unfold evR
  dsimp only [Evt.dot, Evt.off]
  rw [off_set (Nat.le_trans hf (by decide)), decide_eq_false h1, if_pos (show addsE (o.1, o.2.1, o.2.2, newD (crt K).1 nd, offF o (crt K).2) = true from ha)]
  rw [show mayF (o.1, o.2.1, o.2.2) = true from hd.may, show dotF (newD (crt K).1 nd) = true from decide_eq_true ⟨hn.1, hn.2, by
    have : 0 ≤ getF (crt K).1 nd := span_pos _ _ _
    show 0 < getF (crt K).1 nd + 1
    omega⟩]
  by_cases e : o.1 = 1
  · rw [h2 e]; simp
  · rw [decide_eq_false e]; rfl
include w hl in
theorem evR_take (hd : Did (crt K) nd o) (ha : addsF o = false) : evR (o.1, 0, 0, (0, 0), offF o (crt K).2) = true := by
  have ok := crt_ok w hl
  have h12 := of_decide_eq_false ha
  have hm := of_decide_eq_true hd.may
  have hf := ok.few
  have h1 : ((0, 0) : Dot) ∉ offF o (crt K).2 := fun h => by
    have := (off_known w hl _ h).2
    exact absurd this (by decide)
  unfold evR
  dsimp only [Evt.dot, Evt.off]
  rw [off_set (Nat.le_trans hf (by decide)), decide_eq_false h1, if_neg (show ¬ addsE (o.1, 0, 0, (0, 0), offF o (crt K).2) = true by rw [show addsE (o.1, 0, 0, (0, 0), offF o (crt K).2) = false from ha]; simp), decide_eq_false (show ¬ o.1 = 1 by omega)]
  rw [decide_eq_true (show (o.1 = 3 ∨ o.1 = 4) ∧ (0 : Int) = 0 ∧ (0 : Int) = 0 ∧ ((0, 0) : Dot) = (0, 0) from ⟨by omega, rfl, rfl, rfl⟩)]; rfl
/-- the dots of one event more -/
theorem dots_more {y : Evt} (hl : K.length ≤ 100) (d : Dot) : d ∈ mDots (K ++ [y]) ↔ d ∈ mDots K ∨ (mkE y = true ∧ Evt.dot y = d) := by
  rw [dots_in (by rw [List.length_append, List.length_singleton]; omega), dots_in (by omega)]
  constructor
  · rintro ⟨x, hx, h1, h2⟩
    rcases List.mem_append.1 hx with k | k
    · exact .inl ⟨x, k, h1, h2⟩
    · rw [List.mem_singleton.1 k] at h1 h2; exact .inr ⟨h1, h2⟩
  · rintro (⟨x, hx, r⟩ | ⟨h1, h2⟩)
    · exact ⟨x, List.mem_append_left _ hx, r⟩
    · exact ⟨y, by simp, h1, h2⟩
theorem off_more {y : Evt} (d : Dot) : d ∈ mOff (K ++ [y]) ↔ d ∈ mOff K ∨ d ∈ Evt.off y := by
  unfold mOff; rw [List.flatMap_append, List.mem_append]; simp
include w hl in
/-- what stays is what is known, and did not go -/
theorem st_out (e : Ent) : e ∈ stL o (crt K).2 ↔ e ∈ outE K ∧ dotE e ∉ offF o (crt K).2 := by
  have ok := crt_ok w hl
  rw [st_mem, show (e ∈ (crt K).2) = (e ∈ sortE (outE K)) from rfl, sortE_mem]
  constructor
  · rintro ⟨h1, h2⟩
    refine ⟨h1, fun h => ?_⟩
    obtain ⟨f, hf, hg, hd⟩ := (off_mem ok).1 h
    have := ok.one f hf e (sortE_mem.2 h1) hd
    rw [this, h2] at hg; cases hg
  · rintro ⟨h1, h2⟩
    refine ⟨h1, ?_⟩
    cases hg : goneF o e with
    | false => rfl
    | true => exact absurd ((off_mem ok).2 ⟨e, sortE_mem.2 h1, hg, rfl⟩) h2
include w hl hb in
/-- what an op makes of what is known -/
theorem do_known (he : (doF (crt K) nd o).2 = 0) : MW (K ++ [(doF (crt K) nd o).1.2]) ∧ crt (K ++ [(doF (crt K) nd o).1.2]) = (doF (crt K) nd o).1.1 ∧ (Evt.dot (doF (crt K) nd o).1.2).2 < 18446744073709551616 ∧
    (addsE (doF (crt K) nd o).1.2 = true → (Evt.dot (doF (crt K) nd o).1.2).1 = nd ∧ Evt.dot (doF (crt K) nd o).1.2 ∉ mDots K) := by
  have d := did he
  have ok := crt_ok w hl
  have hsb := span_bnd (mDots_bd (by omega) hb) (mDots K).length
  have h8 : (crt K).1.length = 8 := spanTo_len _ _
  have g12 : 0 ≤ getF (crt K).1 nd ∧ getF (crt K).1 nd < 18446744073709551616 := getF_in hsb nd
  obtain ⟨g1, g2⟩ := g12
  rcases d.is with ⟨ha, h0, e⟩ | ⟨ha, hg, h4, e⟩
  · -- some go
    rw [e]
    dsimp only
    have hy : evR (o.1, 0, 0, (0, 0), offF o (crt K).2) = true := evR_take w hl d ha
    generalize hyy : ((o.1, 0, 0, (0, 0), offF o (crt K).2) : Evt) = y at hy
    have ya : addsE y = false := by rw [← hyy]; exact ha
    have yo : Evt.off y = offF o (crt K).2 := by rw [← hyy]
    have yd : Evt.dot y = (0, 0) := by rw [← hyy]
    have dm : ∀ x, x ∈ mDots (K ++ [y]) ↔ x ∈ mDots K := fun x => by
      rw [dots_more hl]
      exact ⟨fun k => k.elim id fun q => by have := q.1; unfold mkE at this; rw [ya] at this; simp at this, .inl⟩
    have bd : EBd (K ++ [y]) := fun x hx => by
      rcases List.mem_append.1 hx with k | k
      · exact hb x k
      · rw [List.mem_singleton.1 k, yd]; decide
    have ww : MW (K ++ [y]) := {
      ev := fun x hx => (List.mem_append.1 hx).elim (w.ev x) fun k => by rw [List.mem_singleton.1 k]; exact hy
      one := fun x hx z hz a1 a2 => by
        have hx' : x ∈ K := (List.mem_append.1 hx).elim id fun k => by rw [List.mem_singleton.1 k, ya] at a1; cases a1
        have hz' : z ∈ K := (List.mem_append.1 hz).elim id fun k => by rw [List.mem_singleton.1 k, ya] at a2; cases a2
        exact w.one x hx' z hz' a1 a2
      whole := by
        rw [whole_closed (by rw [List.length_append, List.length_singleton]; omega) bd]
        intro x hx hz
        exact (dm _).2 ((whole_closed (by omega) hb).1 w.whole x ((dm x).1 hx) hz)
      off := fun x hx => by
        rw [dm]
        rcases (off_more x).1 hx with k | k
        · exact w.off x k
        · rw [yo] at k; exact (off_known w hl x k).1 }
    refine ⟨ww, ?_, by first | decide | (rw [yd]; decide), fun k => by rw [ya] at k; cases k⟩
    have hm : ∀ x, x ∈ outE (K ++ [y]) ↔ x ∈ stL o (crt K).2 := fun x => by
      rw [st_out w hl, out_mem, out_mem]
      constructor
      · rintro ⟨z, hz, ⟨a1, a2⟩, rfl⟩
        have hz' : z ∈ K := (List.mem_append.1 hz).elim id fun k => by rw [List.mem_singleton.1 k, ya] at a1; cases a1
        exact ⟨⟨z, hz', ⟨a1, fun k => a2 ((off_more _).2 (.inl k))⟩, rfl⟩, fun k => a2 ((off_more _).2 (.inr (by rw [yo]; exact k)))⟩
      · rintro ⟨⟨z, hz, ⟨a1, a2⟩, rfl⟩, a3⟩
        refine ⟨z, List.mem_append_left _ hz, ⟨a1, fun k => ?_⟩, rfl⟩
        rcases (off_more _).1 k with q | q
        · exact a2 q
        · rw [yo] at q; exact a3 q
    have su : (stL o (crt K).2).Pairwise ltE := ok.up.sublist List.filter_sublist
    have hp := (List.perm_ext_iff_of_nodup ww.out_nodup (up_nodup su)).2 hm
    have e2 : sortE (outE (K ++ [y])) = stL o (crt K).2 := by
      rw [sortE_of hp]; exact sortE_id (su.imp fun {a b} k => ltE_as _ _ k)
    have e1 : spanTo (mDots (K ++ [y])) (mDots (K ++ [y])).length = (crt K).1 :=
      vec_ext (spanTo_len _ _) h8 (span_nn _ _) (span_nn _ _) fun x => by rw [ww.has, w.has]; exact decide_eq_decide.2 (dm x)
    exact Prod.ext e1 e2
  · -- one comes
    rw [e]
    dsimp only
    have hy : evR (o.1, o.2.1, o.2.2, newD (crt K).1 nd, offF o (crt K).2) = true := evR_new w hl d ha
    have hen : entOf (o.1, o.2.1, o.2.2, newD (crt K).1 nd, offF o (crt K).2) = newE (crt K).1 nd o := rfl
    generalize hyy : ((o.1, o.2.1, o.2.2, newD (crt K).1 nd, offF o (crt K).2) : Evt) = y at hy hen
    have ya : addsE y = true := by rw [← hyy]; exact ha
    have ym : mkE y = true := by unfold mkE; rw [ya, hy]; rfl
    have yo : Evt.off y = offF o (crt K).2 := by rw [← hyy]
    have yd : Evt.dot y = newD (crt K).1 nd := by rw [← hyy]
    have yn : Evt.dot y ∉ mDots K := by rw [yd]; exact new_unknown w
    have dm : ∀ x, x ∈ mDots (K ++ [y]) ↔ x ∈ mDots K ∨ x = newD (crt K).1 nd := fun x => by
      rw [dots_more hl, yd]
      exact ⟨fun k => k.imp id fun q => q.2.symm, fun k => k.imp id fun q => ⟨ym, q.symm⟩⟩
    have yb : (newD (crt K).1 nd).2 < 18446744073709551616 := by show getF (crt K).1 nd + 1 < _; omega
    have bd : EBd (K ++ [y]) := fun x hx => by
      rcases List.mem_append.1 hx with k | k
      · exact hb x k
      · rw [List.mem_singleton.1 k, yd]; exact yb
    have kd : ∀ x ∈ K, addsE x = true → Evt.dot x ≠ newD (crt K).1 nd := fun x hx a1 q => yn (by rw [yd, ← q]; exact (w.dot (by omega)).2 ⟨x, hx, a1, rfl⟩)
    have ww : MW (K ++ [y]) := {
      ev := fun x hx => (List.mem_append.1 hx).elim (w.ev x) fun k => by rw [List.mem_singleton.1 k]; exact hy
      one := fun x hx z hz a1 a2 q => by
        rcases List.mem_append.1 hx with k | k <;> rcases List.mem_append.1 hz with r | r
        · exact w.one x k z r a1 a2 q
        · rw [List.mem_singleton.1 r, yd] at q; exact absurd q (kd x k a1)
        · rw [List.mem_singleton.1 k, yd] at q; exact absurd q.symm (kd z r a2)
        · rw [List.mem_singleton.1 k, List.mem_singleton.1 r]
      whole := by
        rw [whole_closed (by rw [List.length_append, List.length_singleton]; omega) bd]
        intro x hx hz
        rcases (dm x).1 hx with k | rfl
        · exact (dm _).2 (.inl ((whole_closed (by omega) hb).1 w.whole x k hz))
        · refine (dm _).2 (.inl ?_)
          have hn := of_decide_eq_true d.node
          have hz' : 0 < getF (crt K).1 nd := by
            have : 0 < getF (crt K).1 nd + 1 - 1 := hz
            omega
          have := w.has (nd, getF (crt K).1 nd)
          unfold hasF at this
          rw [show dotF (nd, getF (crt K).1 nd) = true from decide_eq_true ⟨hn.1, hn.2, hz'⟩, Bool.true_and, decide_eq_true (Int.le_refl _)] at this
          have hmm := of_decide_eq_true this.symm
          rw [show ((newD (crt K).1 nd).1, (newD (crt K).1 nd).2 - 1) = (nd, getF (crt K).1 nd) by
            unfold newD; simp only [Prod.mk.injEq, true_and]; omega]
          exact hmm
      off := fun x hx => by
        rw [dm]
        rcases (off_more x).1 hx with k | k
        · exact .inl (w.off x k)
        · rw [yo] at k; exact .inl (off_known w hl x k).1 }
    refine ⟨ww, ?_, by rw [yd]; exact yb, fun _ => ⟨by rw [yd]; rfl, yn⟩⟩
    have hm : ∀ x, x ∈ outE (K ++ [y]) ↔ x ∈ stL o (crt K).2 ++ [newE (crt K).1 nd o] := fun x => by
      rw [List.mem_append, List.mem_singleton, st_out w hl, out_mem, out_mem]
      constructor
      · rintro ⟨z, hz, ⟨a1, a2⟩, rfl⟩
        rcases List.mem_append.1 hz with k | k
        · exact .inl ⟨⟨z, k, ⟨a1, fun q => a2 ((off_more _).2 (.inl q))⟩, rfl⟩, fun q => a2 ((off_more _).2 (.inr (by rw [yo]; exact q)))⟩
        · rw [List.mem_singleton.1 k]; exact .inr hen
      · rintro (⟨⟨z, hz, ⟨a1, a2⟩, rfl⟩, a3⟩ | rfl)
        · refine ⟨z, List.mem_append_left _ hz, ⟨a1, fun k => ?_⟩, rfl⟩
          rcases (off_more _).1 k with q | q
          · exact a2 q
          · rw [yo] at q; exact a3 q
        · refine ⟨y, by simp, ⟨ya, fun k => ?_⟩, hen⟩
          rcases (off_more _).1 k with q | q
          · exact yn (w.off _ q)
          · rw [yo] at q; exact yn (off_known w hl _ q).1
    have hp := (List.perm_ext_iff_of_nodup ww.out_nodup (add_nodup ok)).2 hm
    have e2 : sortE (outE (K ++ [y])) = sortE (stL o (crt K).2 ++ [newE (crt K).1 nd o]) := sortE_of hp
    have e1 : spanTo (mDots (K ++ [y])) (mDots (K ++ [y])).length = withF (crt K).1 (newD (crt K).1 nd) :=
      vec_ext (spanTo_len _ _) (by rw [withF_len]; exact h8) (span_nn _ _) (fun n hn => by
        rw [with_is d.node] at hn
        rcases List.mem_or_eq_of_mem_set hn with k | rfl
        · exact (hsb n k).1
        · omega) fun x => by
        rw [ww.has, with_has h8 hsb d.node, w.has, Bool.eq_iff_iff, Bool.or_eq_true, decide_eq_true_eq, decide_eq_true_eq, decide_eq_true_eq]
        exact dm x
    exact Prod.ext e1 e2
end
end Go.Proofs.YtebjmleheiefdaaGreat.Ca
namespace Go.Proofs.YtebjmleheiefdaaGreat.Ca
open Go Go.RowKit Go.Aw Go.Aw.Cart Go.Aw.Ord Go.Sort
set_option linter.unusedVariables false
set_option linter.unusedSimpArgs false
set_option maxRecDepth 8000
set_option maxHeartbeats 4000000
/-- no two events of all have one dot -/
def Uq (E : List Evt) : Prop := ∀ x ∈ E, ∀ y ∈ E, addsE x = true → addsE y = true → Evt.dot x = Evt.dot y → x = y
/-- what a node knows of all events -/
structure Rp (E : List Evt) (i : Int) (k : List Evt) : Prop where
  w : MW k
  bd : EBd k
  sub : ∀ x ∈ k, x ∈ E
  own : ∀ x ∈ E, addsE x = true → (Evt.dot x).1 = i → x ∈ k
  len : k.length ≤ E.length
theorem mw_nil : MW [] := {
  ev := fun x hx => by cases hx
  one := fun x hx => by cases hx
  whole := (whole_closed (l := []) (by simp) (fun x hx => by cases hx)).2 fun d hd => by
    obtain ⟨x, hx, _⟩ := (dots_in (l := []) (by simp)).1 hd
    cases hx
  off := fun d hd => by cases hd }
theorem rp_nil (i : Int) : Rp [] i [] := ⟨mw_nil, fun x hx => (by cases hx), fun x hx => (by cases hx), fun x hx => (by cases hx), Nat.le_refl _⟩
theorem uq_nil : Uq [] := fun x hx => by cases hx
theorem crt_nil : crt [] = (zeroV, []) := by
  have h : mDots [] = [] := by
    refine List.eq_nil_iff_forall_not_mem.2 fun d hd => ?_
    obtain ⟨x, hx, _⟩ := (dots_in (l := []) (by simp)).1 hd
    cases hx
  have h2 : outE [] = [] := rfl
  unfold crt
  rw [h, h2, sortE_id .nil]; rfl
theorem Rp.cart {E k : List Evt} {i : Int} (h : Rp E i k) (hE : E.length ≤ 100) : mCart k = (crt k, 0) := cart_of h.w (by have := out_len k; have := h.len; omega)
theorem Rp.offs {E k : List Evt} {i : Int} (h : Rp E i k) : ∀ x ∈ k, (Evt.off x).length ≤ 2000 := fun x hx => by
  have := h.w.ev x hx
  unfold evR at this
  rw [Bool.and_eq_true, Bool.and_eq_true] at this
  exact (dr_is this.1.1).2.2
theorem Rp.bnd {E k : List Evt} {i : Int} (h : Rp E i k) (hE : E.length ≤ 100) : ∀ n ∈ (crt k).1, 0 ≤ n ∧ n < 18446744073709551616 :=
  span_bnd (mDots_bd (by have := h.len; omega) h.bd) _
theorem crt_len8 (k : List Evt) : (crt k).1.length = 8 := spanTo_len _ _
theorem crt_few (k : List Evt) : (crt k).2.length ≤ k.length := by show (sortE (outE k)).length ≤ _; rw [sortE_len]; exact out_len k
theorem Rp.join {E a b : List Evt} {i j : Int} (uq : Uq E) (hE : E.length ≤ 40) (ra : Rp E i a) (rb : Rp E j b) : Rp E i (mUnion a b) ∧ twoF (crt a) (crt b) = (crt (mUnion a b), 0) := by
  have la := ra.len; have lb := rb.len
  have nc : ∀ x y, (x ∈ a ∨ x ∈ b) → (y ∈ a ∨ y ∈ b) → addsE x = true → addsE y = true → Evt.dot x = Evt.dot y → x = y := fun x y hx hy =>
    uq x (hx.elim (ra.sub x) (rb.sub x)) y (hy.elim (ra.sub y) (rb.sub y))
  have wu := ra.w.union rb.w (by omega) (by omega) ra.bd rb.bd nc
  have sub : ∀ x ∈ mUnion a b, x ∈ E := fun x hx => (union_mem.1 hx).elim (ra.sub x) (rb.sub x)
  have lu := nodup_le (union_nodup a b) sub
  have ru : Rp E i (mUnion a b) := ⟨wu, fun x hx => (union_mem.1 hx).elim (ra.bd x) (rb.bd x), sub, fun x hx h1 h2 => union_mem.2 (.inl (ra.own x hx h1 h2)), lu⟩
  refine ⟨ru, ?_⟩
  have h4 : (outE (mUnion a b)).length ≤ 400 := by have := out_len (mUnion a b); omega
  have := UN.join (a := a) (b := b) (u := mUnion a b) ⟨ra.w, rb.w, wu, by omega, by omega, by omega, fun x => union_mem⟩ h4
  rw [ra.cart (by omega), rb.cart (by omega), ru.cart (by omega)] at this
  exact this
theorem Rp.op {E a : List Evt} {nd : Int} {o : Op3} (uq : Uq E) (hE : E.length ≤ 40) (ra : Rp E nd a) (he : (doF (crt a) nd o).2 = 0) :
    Uq (E ++ [(doF (crt a) nd o).1.2]) ∧ Rp (E ++ [(doF (crt a) nd o).1.2]) nd (a ++ [(doF (crt a) nd o).1.2]) ∧ crt (a ++ [(doF (crt a) nd o).1.2]) = (doF (crt a) nd o).1.1 ∧ (addsE (doF (crt a) nd o).1.2 = true → (Evt.dot (doF (crt a) nd o).1.2).1 = nd) := by
  have la := ra.len
  obtain ⟨h1, h2, h3, h4⟩ := do_known ra.w (by omega) ra.bd he
  generalize (doF (crt a) nd o).1.2 = y at *
  have fresh : ∀ x ∈ E, addsE x = true → addsE y = true → Evt.dot x ≠ Evt.dot y := fun x hx a1 a2 q => by
    obtain ⟨k1, k2⟩ := h4 a2
    exact k2 ((ra.w.dot (by omega)).2 ⟨x, ra.own x hx a1 (by rw [q]; exact k1), a1, q⟩)
  refine ⟨fun x hx z hz a1 a2 q => ?_, ⟨h1, fun x hx => ?_, fun x hx => ?_, fun x hx a1 a2 => ?_, ?_⟩, h2, fun k => (h4 k).1⟩
  · rcases List.mem_append.1 hx with k | k <;> rcases List.mem_append.1 hz with r | r
    · exact uq x k z r a1 a2 q
    · rw [List.mem_singleton.1 r] at a2 q; exact absurd q (fresh x k a1 a2)
    · rw [List.mem_singleton.1 k] at a1 q; exact absurd q.symm (fresh z r a2 a1)
    · rw [List.mem_singleton.1 k, List.mem_singleton.1 r]
  · rcases List.mem_append.1 hx with k | k
    · exact ra.bd x k
    · rw [List.mem_singleton.1 k]; exact h3
  · rcases List.mem_append.1 hx with k | k
    · exact List.mem_append_left _ (ra.sub x k)
    · exact List.mem_append_right _ k
  · rcases List.mem_append.1 hx with k | k
    · exact List.mem_append_left _ (ra.own x k a1 a2)
    · exact List.mem_append_right _ k
  · rw [List.length_append, List.length_append]
    have : ([y] : List Evt).length = 1 := rfl
    omega
theorem Rp.more {E b : List Evt} {j nd : Int} {y : Evt} (rb : Rp E j b) (hy : addsE y = true → (Evt.dot y).1 = nd) (hn : nd ≠ j) : Rp (E ++ [y]) j b :=
  ⟨rb.w, rb.bd, fun x hx => List.mem_append_left _ (rb.sub x hx), fun x hx a1 a2 => by
    rcases List.mem_append.1 hx with k | k
    · exact rb.own x k a1 a2
    · rw [List.mem_singleton.1 k] at a1 a2; exact absurd ((hy a1).symm.trans a2) hn, by have := rb.len; rw [List.length_append]; omega⟩
/-- all three of them, behind some steps -/
def Inv3 (n : Nat) (k0 k1 k2 : List Evt) : Prop := ∃ E, E.length ≤ n ∧ Uq E ∧ Rp E 1 k0 ∧ Rp E 2 k1 ∧ Rp E 3 k2
theorem Inv3.up {n m : Nat} {k0 k1 k2 : List Evt} (h : Inv3 n k0 k1 k2) (hm : n ≤ m) : Inv3 m k0 k1 k2 := by
  obtain ⟨E, h1, h2⟩ := h; exact ⟨E, Nat.le_trans h1 hm, h2⟩
end Go.Proofs.YtebjmleheiefdaaGreat.Ca
