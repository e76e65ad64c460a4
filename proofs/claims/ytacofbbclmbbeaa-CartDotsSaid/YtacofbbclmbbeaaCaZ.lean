/- carts in plain Lean: which may be, once more; joins -/
import Derived.Test.YtacofbbclmbbeaaCaQ
namespace Go.Proofs.Ytacofbbclmbbeaa.Ca
open Go Go.RowKit Go.Aw Go.Aw.Cart Go.Aw.Ord Go.Sort
set_option linter.unusedVariables false
set_option linter.unusedSimpArgs false
theorem getD_at {α : Type} [Inhabited α] {l : List α} {i : Nat} (h : i < l.length) : l.getD i default = l[i] := by
  rw [List.getD_eq_getElem?_getD, List.getElem?_eq_getElem h]; rfl
theorem adj_up {l : List Ent} (h : ∀ i, 0 < i → i < l.length → ltE (l.getD (i - 1) default) (l.getD i default)) : l.Pairwise ltE := by
  have key : ∀ j, j < l.length → ∀ i, i < j → ltE (l.getD i default) (l.getD j default) := by
    intro j
    induction j with
    | zero => intro _ i hi; exact absurd hi (Nat.not_lt_zero _)
    | succ j ih =>
      intro hj i hi
      have h1 := h (j + 1) (Nat.succ_pos _) hj
      rw [Nat.add_sub_cancel] at h1
      by_cases e : i = j
      · rw [e]; exact h1
      · exact ltE_tr _ _ _ (ih (by omega) i (by omega)) h1
  refine List.pairwise_iff_getElem.2 fun i j hi hj hij => ?_
  have := key j hj i hij
  rwa [getD_at hi, getD_at hj] at this
theorem up_adj {l : List Ent} (h : l.Pairwise ltE) {i : Nat} (h0 : 0 < i) (hi : i < l.length) : ltE (l.getD (i - 1) default) (l.getD i default) := by
  have := List.pairwise_iff_getElem.1 h (i - 1) i (by omega) hi (by omega)
  rwa [getD_at hi, getD_at (show i - 1 < l.length by omega)]
/-- of things that are unlike, images are so just if no two have one -/
theorem nodup_map {α β : Type} {f : α → β} : ∀ {l : List α}, l.Nodup → ((l.map f).Nodup ↔ ∀ x ∈ l, ∀ y ∈ l, f x = f y → x = y)
  | [], _ => by simp
  | a :: l, h => by
    obtain ⟨h1, h2⟩ := List.nodup_cons.1 h
    rw [List.map_cons, List.nodup_cons, nodup_map h2]
    constructor
    · rintro ⟨k1, k2⟩ x hx y hy e
      rcases List.mem_cons.1 hx with q | q <;> rcases List.mem_cons.1 hy with r | r
      · rw [q, r]
      · exact absurd (List.mem_map.2 ⟨y, r, by rw [← e, q]⟩) k1
      · exact absurd (List.mem_map.2 ⟨x, q, by rw [e, r]⟩) k1
      · exact k2 x q y r e
    · intro k
      refine ⟨fun q => ?_, fun x hx y hy => k x (List.mem_cons_of_mem _ hx) y (List.mem_cons_of_mem _ hy)⟩
      obtain ⟨y, hy, e⟩ := List.mem_map.1 q
      rw [k y (List.mem_cons_of_mem _ hy) a List.mem_cons_self e] at hy
      exact h1 hy
theorem up_nodup {l : List Ent} (h : l.Pairwise ltE) : l.Nodup := h.imp fun {a b} k e => by subst e; exact ltE_ir _ k
/-- a cart that may be -/
structure Ok (v : List Int) (l : List Ent) : Prop where
  few : l.length ≤ 400
  up : l.Pairwise ltE
  ent : ∀ e ∈ l, entF e = true
  has : ∀ e ∈ l, hasF v (dotE e) = true
  one : ∀ e ∈ l, ∀ f ∈ l, dotE e = dotE f → e = f
theorem ok_iff {v : List Int} {l : List Ent} : rightF v l = true ↔ Ok v l := by
  rw [rightF_iff]
  constructor
  · rintro ⟨h1, h2, h3⟩
    have hu : l.Pairwise ltE := adj_up fun i h0 hi => (row_ent (h2 i hi)).2.2 h0
    refine ⟨h1, hu, fun e he => ?_, fun e he => ?_, (nodup_map (up_nodup hu)).1 h3⟩
    · obtain ⟨i, hi, rfl⟩ := getD_mem he; exact (row_ent (h2 i hi)).1
    · obtain ⟨i, hi, rfl⟩ := getD_mem he; exact (row_ent (h2 i hi)).2.1
  · intro h
    refine ⟨h.few, fun i hi => ?_, (nodup_map (up_nodup h.up)).2 h.one⟩
    have hm : l.getD i default ∈ l := by rw [getD_at hi]; exact List.getElem_mem _
    unfold rowOk
    simp only [Bool.and_eq_true, Bool.or_eq_true, decide_eq_true_eq]
    refine ⟨⟨h.ent _ hm, h.has _ hm⟩, ?_⟩
    by_cases h0 : i = 0
    · exact .inl h0
    · exact .inr (ordE_lt.2 (up_adj h.up (by omega) hi))
theorem Ok.upI {v : List Int} {l : List Ent} (h : Ok v l) : upI ltE l := h.up.imp fun {a b} k => ltE_as _ _ k
theorem Ok.dot {v : List Int} {l : List Ent} (h : Ok v l) {e : Ent} (he : e ∈ l) : dotF (dotE e) = true := has_dot (h.has e he)
theorem Ok.live {v : List Int} {l : List Ent} (h : Ok v l) {d : Dot} : d ∈ liveF l ↔ d ∈ l.map dotE := by
  rw [live_set l (by have := h.few; omega), setF_mem]
  refine ⟨fun k => k.1, fun k => ⟨k, ?_⟩⟩
  obtain ⟨e, he, rfl⟩ := List.mem_map.1 k
  exact h.dot he
/-- rising lists of the same entries are one -/
theorem ent_ext {l m : List Ent} (hl : l.Pairwise ltE) (hm : m.Pairwise ltE) (h : ∀ e, e ∈ l ↔ e ∈ m) : l = m := up_ext ltE_ir ltE_tr hl hm h
theorem sortE_sup {l : List Ent} (h : l.Nodup) : (sortE l).Pairwise ltE := by
  have h1 : (sortE l).Pairwise fun a b => a ≠ b := (sortE_perm l).nodup_iff.2 h
  refine List.Pairwise.imp (fun {a b} (k : ¬ ltE b a ∧ a ≠ b) => ?_) ((sortE_up l).and h1)
  by_cases q : ltE a b
  · exact q
  · exact absurd (ltE_tot _ _ q k.1) k.2
/-! joins -/
abbrev Crt := List Int × List Ent
def staysF (a b : Crt) (both : Bool) : List Ent := a.2.filter fun e => (both && decide (e ∈ b.2)) || !hasF b.1 (dotE e)
def clashF (a b : Crt) : Bool := a.2.any fun e => b.2.any fun f => decide (e ≠ f) && decide (dotE e = dotE f)
def maxV (a b : List Int) : List Int := List.zipWith (fun x y => if x < y then y else x) a b
def zeroV : List Int := [0, 0, 0, 0, 0, 0, 0, 0]
def bothF (a b : Crt) : List Ent := staysF a b true ++ staysF b a false
/-- the join of two carts, and the error -/
def twoF (a b : Crt) : Crt × Int :=
  if rightF a.1 a.2 = false ∨ rightF b.1 b.2 = false then ((zeroV, []), 3) else
  if clashF a b = true then ((zeroV, []), 14) else
  if 400 < (bothF a b).length then ((zeroV, []), 5) else
  ((maxV a.1 b.1, sortE (bothF a b)), 0)
def allF (l : List Crt) : Nat → Crt × Int
  | 0 => ((zeroV, []), 0)
  | i + 1 => if (allF l i).2 = 0 then (if (twoF (allF l i).1 (l.getD i default)).2 = 0 then twoF (allF l i).1 (l.getD i default) else ((zeroV, []), (twoF (allF l i).1 (l.getD i default)).2)) else allF l i
def coversF (a b : Crt) : Bool := decide ((twoF a b).2 = 0) && (decide ((twoF a b).1.1 = a.1) && decide ((twoF a b).1.2 = a.2))
theorem both_mem {a b : Crt} {e : Ent} : e ∈ bothF a b ↔ (e ∈ a.2 ∧ (e ∈ b.2 ∨ hasF b.1 (dotE e) = false)) ∨ (e ∈ b.2 ∧ hasF a.1 (dotE e) = false) := by
  unfold bothF staysF
  simp [List.mem_append, List.mem_filter]
theorem clash_not {a b : Crt} (h : clashF a b = false) : ∀ e ∈ a.2, ∀ f ∈ b.2, dotE e = dotE f → e = f := by
  intro e he f hf hd
  by_cases k : e = f
  · exact k
  · unfold clashF at h
    rw [List.any_eq_false] at h
    have h1 := h e he
    rw [Bool.not_eq_true, List.any_eq_false] at h1
    have h2 := h1 f hf
    simp [k, hd] at h2
theorem clash_of {a b : Crt} (h : ∀ e ∈ a.2, ∀ f ∈ b.2, dotE e = dotE f → e = f) : clashF a b = false := by
  unfold clashF
  rw [List.any_eq_false]
  intro e he
  rw [Bool.not_eq_true, List.any_eq_false]
  intro f hf
  simp only [Bool.not_eq_true, Bool.and_eq_false_iff, decide_eq_false_iff_not]
  by_cases k : dotE e = dotE f
  · exact .inl fun q => q (h e he f hf k)
  · exact .inr k
theorem maxV_len {a b : List Int} (ha : a.length = 8) (hb : b.length = 8) : (maxV a b).length = 8 := by simp [maxV, ha, hb]
theorem maxV_get {a b : List Int} (ha : a.length = 8) (hb : b.length = 8) {i : Nat} (hi : i < 8) : (maxV a b).getD i default = if a.getD i default < b.getD i default then b.getD i default else a.getD i default := by
  rw [getD_at (by rw [maxV_len ha hb]; exact hi), getD_at (by omega), getD_at (by omega)]
  simp [maxV]
theorem getF_max {a b : List Int} (ha : a.length = 8) (hb : b.length = 8) (n : Int) : getF (maxV a b) n = if getF a n < getF b n then getF b n else getF a n := by
  unfold getF
  by_cases h : 1 ≤ n ∧ n ≤ 8
  · rw [if_pos h, if_pos h, if_pos h, maxV_get ha hb (by omega)]
  · rw [if_neg h, if_neg h, if_neg h]; rfl
theorem has_max {a b : List Int} (ha : a.length = 8) (hb : b.length = 8) (d : Dot) : hasF (maxV a b) d = (hasF a d || hasF b d) := by
  unfold hasF
  rw [getF_max ha hb]
  cases dotF d with
  | false => rfl
  | true =>
    simp only [Bool.true_and]
    rw [Bool.eq_iff_iff, Bool.or_eq_true, decide_eq_true_eq, decide_eq_true_eq, decide_eq_true_eq]
    split <;> omega
theorem maxV_comm (a b : List Int) : maxV a b = maxV b a := by
  unfold maxV
  rw [List.zipWith_comm]
  congr 1
  funext x y
  split <;> split <;> omega
theorem maxV_self (a : List Int) : maxV a a = a := by
  unfold maxV
  rw [List.zipWith_self]
  simp
theorem maxV_ext {a b : List Int} (ha : a.length = 8) (hb : b.length = 8) (h : ∀ i, i < 8 → a.getD i default = b.getD i default) : a = b := by
  refine List.ext_getElem (by rw [ha, hb]) fun i h1 h2 => ?_
  have := h i (by omega)
  rwa [getD_at h1, getD_at h2] at this
theorem maxV_assoc {a b c : List Int} (ha : a.length = 8) (hb : b.length = 8) (hc : c.length = 8) : maxV (maxV a b) c = maxV a (maxV b c) := by
  refine maxV_ext (maxV_len (maxV_len ha hb) hc) (maxV_len ha (maxV_len hb hc)) fun i hi => ?_
  rw [maxV_get (maxV_len ha hb) hc hi, maxV_get ha hb hi, maxV_get ha (maxV_len hb hc) hi, maxV_get hb hc hi]
  repeat' split
  all_goals omega
theorem maxV_zero {a : List Int} (ha : a.length = 8) (h : ∀ n ∈ a, 0 ≤ n) : maxV zeroV a = a := by
  refine maxV_ext (maxV_len rfl ha) ha fun i hi => ?_
  rw [maxV_get rfl ha hi]
  have h0 : zeroV.getD i default = 0 := by
    match i, hi with
    | 0, _ | 1, _ | 2, _ | 3, _ | 4, _ | 5, _ | 6, _ | 7, _ => rfl
  have := h (a.getD i default) (by rw [getD_at (by omega)]; exact List.getElem_mem _)
  rw [h0]
  split <;> omega
/-- carts that have no dot in unlike entries: of them all the join is there -/
structure Two (a b : Crt) : Prop where
  la : a.1.length = 8
  lb : b.1.length = 8
  oa : Ok a.1 a.2
  ob : Ok b.1 b.2
  nc : ∀ e ∈ a.2, ∀ f ∈ b.2, dotE e = dotE f → e = f
  few : (bothF a b).length ≤ 400
theorem bothF_nodup {a b : Crt} (oa : Ok a.1 a.2) (ob : Ok b.1 b.2) : (bothF a b).Nodup := by
  unfold bothF
  refine List.nodup_append.2 ⟨(up_nodup oa.up).sublist List.filter_sublist, (up_nodup ob.up).sublist List.filter_sublist, fun x hx y hy e => ?_⟩
  subst e
  unfold staysF at hx hy
  have h1 := (List.mem_filter.1 hx).1
  have h2 := (List.mem_filter.1 hy).2
  rw [Bool.false_and, Bool.false_or, oa.has x h1] at h2
  exact absurd h2 (by simp)
theorem Two.is {a b : Crt} (h : Two a b) : twoF a b = ((maxV a.1 b.1, sortE (bothF a b)), 0) := by
  unfold twoF
  rw [ok_iff.2 h.oa, ok_iff.2 h.ob, if_neg (by simp), if_neg (by rw [clash_of h.nc]; simp), if_neg (by have := h.few; omega)]
theorem Two.mem {a b : Crt} (h : Two a b) {e : Ent} : e ∈ (twoF a b).1.2 ↔ (e ∈ a.2 ∧ (e ∈ b.2 ∨ hasF b.1 (dotE e) = false)) ∨ (e ∈ b.2 ∧ hasF a.1 (dotE e) = false) := by
  rw [h.is, sortE_mem, both_mem]
theorem Two.vec {a b : Crt} (h : Two a b) : (twoF a b).1.1 = maxV a.1 b.1 := by rw [h.is]
theorem Two.len {a b : Crt} (h : Two a b) : (twoF a b).1.1.length = 8 := by rw [h.vec]; exact maxV_len h.la h.lb
theorem Two.sub {a b : Crt} (h : Two a b) {e : Ent} (he : e ∈ (twoF a b).1.2) : e ∈ a.2 ∨ e ∈ b.2 := by
  rcases h.mem.1 he with k | k
  · exact .inl k.1
  · exact .inr k.1
theorem Two.ok {a b : Crt} (h : Two a b) : Ok (twoF a b).1.1 (twoF a b).1.2 := by
  have hs := @Two.sub a b h
  have hv := h.vec
  refine ⟨?_, ?_, fun e he => ?_, fun e he => ?_, fun e he f hf hd => ?_⟩
  · rw [h.is]; show (sortE _).length ≤ 400; rw [sortE_len]; exact h.few
  · rw [h.is]; exact sortE_sup (bothF_nodup h.oa h.ob)
  · exact (hs he).elim (h.oa.ent e) (h.ob.ent e)
  · rw [hv, has_max h.la h.lb, Bool.or_eq_true]
    exact (hs he).elim (fun k => .inl (h.oa.has e k)) (fun k => .inr (h.ob.has e k))
  · rcases hs he with k | k <;> rcases hs hf with q | q
    · exact h.oa.one e k f q hd
    · exact h.nc e k f q hd
    · exact (h.nc f q e k hd.symm).symm
    · exact h.ob.one e k f q hd
end Go.Proofs.Ytacofbbclmbbeaa.Ca
