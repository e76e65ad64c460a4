/- rings in plain Lean: points in order, turned to a base; of their nodes the first unlike ones; rings in plain Lean: who holds how many parts; points put in one by one are in order; the lists of the reference; rings: which memberships may be, lists of numbers; THE ABSTRACT WALK, part 30: a method's value; sync.Once's Do, as a contract on the object that holds the Once, out of a raw contract of Do and a contract of what is done. Nothing here speaks of a program.; THE ABSTRACT WALK, part 31: a call to which a function's value is handed that captured a variable with a pointer to an own object: both stay while it lasts. Nothing here speaks of a program.; THE ABSTRACT WALK, part 32: strings read byte by byte. Nothing here speaks of a program.; rings: a new ring, and its membership; rings: the point of some bytes, the program's and the reference's; rings: all points are laid -/
import Derived.Test.YthhlcdacmlnjdaaGreatCaQ
import Derived.Test.YthhlcdacmlnjdaaGreatKx
import Derived.Test.YthhlcdacmlnjdaaGreatKj
import Derived.Test.YthhlcdacmlnjdaaGreatRs5
import Derived.Test.YthhlcdacmlnjdaaGreatSh8
namespace Go.Proofs.YthhlcdacmlnjdaaGreat.Rg
open Go Go.RowKit Go.Aw Go.Aw.Cart Go.Aw.Ord Go.Sort Go.Proofs.YthhlcdacmlnjdaaGreat.Ca
set_option linter.unusedVariables false
set_option linter.unusedSimpArgs false
set_option maxRecDepth 8000
set_option maxHeartbeats 4000000
/-! each number once, in the order in which they come -/
def dl (l : List Int) : List Int := l.foldl (fun acc x => if x ∈ acc then acc else acc ++ [x]) []
theorem dl_snoc (l : List Int) (x : Int) : dl (l ++ [x]) = if x ∈ dl l then dl l else dl l ++ [x] := by
  unfold dl; rw [List.foldl_append]; rfl
/-- what holds of [] and of one more holds of all -/
theorem snoc_ind {α : Type} {P : List α → Prop} (h0 : P []) (hs : ∀ l x, P l → P (l ++ [x])) (l : List α) : P l := by
  have key : ∀ k, P (l.take k) := by
    intro k
    induction k with
    | zero => rw [List.take_zero]; exact h0
    | succ k ih =>
      by_cases hk : k < l.length
      · rw [List.take_succ_eq_append_getElem hk]; exact hs _ _ ih
      · rw [List.take_of_length_le (by omega)]; rw [List.take_of_length_le (by omega)] at ih; exact ih
  have := key l.length
  rwa [List.take_length] at this
theorem dl_mem (l : List Int) : ∀ y, y ∈ dl l ↔ y ∈ l := by
  refine snoc_ind (P := fun l => ∀ y, y ∈ dl l ↔ y ∈ l) (fun y => Iff.rfl) (fun l x ih y => ?_) l
  rw [dl_snoc, List.mem_append, List.mem_singleton]
  split
  · rename_i h
    rw [ih y]
    exact ⟨.inl, fun k => k.elim id fun e => by rw [e]; exact (ih x).1 h⟩
  · rw [List.mem_append, List.mem_singleton, ih y]
theorem dl_nodup (l : List Int) : (dl l).Nodup := by
  refine snoc_ind (P := fun l => (dl l).Nodup) List.nodup_nil (fun l x ih => ?_) l
  rw [dl_snoc]
  split
  · exact ih
  · rename_i h
    refine List.nodup_append.2 ⟨ih, List.nodup_cons.2 ⟨by simp, List.nodup_nil⟩, fun a ha b hb e => ?_⟩
    rw [List.mem_singleton.1 hb] at e; rw [e] at ha; exact h ha
theorem dl_filter (p : Int → Bool) (l : List Int) : dl (l.filter p) = (dl l).filter p := by
  refine snoc_ind (P := fun l => dl (l.filter p) = (dl l).filter p) rfl (fun l x ih => ?_) l
  rw [List.filter_append, dl_snoc]
  cases hx : p x with
  | true =>
    rw [List.filter_cons_of_pos hx, List.filter_nil, dl_snoc, ih]
    by_cases h : x ∈ dl l
    · rw [if_pos h, if_pos (List.mem_filter.2 ⟨h, hx⟩)]
    · rw [if_neg h, if_neg (fun k => h (List.mem_filter.1 k).1), List.filter_append, List.filter_cons_of_pos hx, List.filter_nil]
  | false =>
    rw [List.filter_cons_of_neg (by rw [hx]; simp), List.filter_nil, List.append_nil, ih]
    by_cases h : x ∈ dl l
    · rw [if_pos h]
    · rw [if_neg h, List.filter_append, List.filter_cons_of_neg (by rw [hx]; simp), List.filter_nil, List.append_nil]
/-- what has come already does not count -/
theorem dl_skip (a : List Int) (p : Int → Bool) (l : List Int) (h : ∀ x ∈ l, p x = false → x ∈ a) : dl (a ++ l) = dl (a ++ l.filter p) := by
  refine (snoc_ind (P := fun l => (∀ x ∈ l, p x = false → x ∈ a) → dl (a ++ l) = dl (a ++ l.filter p)) (fun _ => rfl) (fun l x ih k => ?_) l) h
  have ih' := ih fun y hy => k y (List.mem_append_left _ hy)
  rw [← List.append_assoc, dl_snoc, ih', List.filter_append]
  cases hx : p x with
  | true => rw [List.filter_cons_of_pos hx, List.filter_nil, ← List.append_assoc, dl_snoc]
  | false =>
    rw [List.filter_cons_of_neg (by rw [hx]; simp), List.filter_nil, List.append_nil, if_pos]
    rw [dl_mem, List.mem_append]
    exact .inl (k x (by simp) hx)
/-- the first unlike ones, at most r, as far as they were looked at -/
def pickTo (r : Nat) (l : List Int) : Nat → List Int
  | 0 => []
  | k + 1 => if (pickTo r l k).length < r ∧ l.getD k default ∉ pickTo r l k then pickTo r l k ++ [l.getD k default] else pickTo r l k
theorem take_in {l : List Int} {r : Nat} {x : Int} (h : (l.take r).length < r) : x ∈ l.take r ↔ x ∈ l := by
  rw [List.length_take] at h
  rw [List.take_of_length_le (by omega)]
theorem pickTo_is {r : Nat} {l : List Int} : ∀ k, k ≤ l.length → pickTo r l k = (dl (l.take k)).take r
  | 0, _ => by rw [pickTo, List.take_zero]; exact (List.take_nil (i := r)).symm
  | k + 1, h => by
    have ih := pickTo_is (r := r) (l := l) k (by omega)
    rw [pickTo, ih, take_get' (show k < l.length by omega), dl_snoc]
    by_cases hl : ((dl (l.take k)).take r).length < r
    · have hlen := hl
      rw [List.length_take] at hlen
      by_cases hx : l.getD k default ∈ dl (l.take k)
      · rw [if_pos hx, if_neg (fun q => q.2 ((take_in hl).2 hx))]
      · have e1 : (dl (l.take k)).take r = dl (l.take k) := List.take_of_length_le (by omega)
        have e2 : (dl (l.take k) ++ [l.getD k default]).take r = dl (l.take k) ++ [l.getD k default] := List.take_of_length_le (by rw [List.length_append, List.length_singleton]; omega)
        rw [if_neg hx, if_pos ⟨hl, fun q => hx ((take_in hl).1 q)⟩, e1, e2]
    · rw [if_neg (fun q => hl q.1)]
      rw [List.length_take] at hl
      split
      · rfl
      · exact (List.take_append_of_le_length (l₁ := dl (l.take k)) (by omega)).symm
/-! points, and lists -/
/-- points in order, from a base on, and round -/
def rotF (base : Int) (L : List Dot) : List Dot := (L.filter fun p => decide (base ≤ p.1)) ++ L.filter fun p => !decide (base ≤ p.1)
def listF (L : List Dot) (r : Nat) (base : Int) : List Int := (dl ((rotF base L).map (·.2))).take r
theorem rot_mem {base : Int} {L : List Dot} {p : Dot} : p ∈ rotF base L ↔ p ∈ L := by
  unfold rotF
  rw [List.mem_append, List.mem_filter, List.mem_filter]
  constructor
  · rintro (k | k) <;> exact k.1
  · intro k
    by_cases h : base ≤ p.1
    · exact .inl ⟨k, decide_eq_true h⟩
    · exact .inr ⟨k, by rw [decide_eq_false h]; rfl⟩
theorem rot_filter {base : Int} {L : List Dot} (q : Dot → Bool) : rotF base (L.filter q) = (rotF base L).filter q := by
  unfold rotF
  rw [List.filter_append, List.filter_filter, List.filter_filter, List.filter_filter, List.filter_filter]
  congr 1 <;> (refine List.filter_congr fun p _ => ?_) <;> exact Bool.and_comm _ _
theorem list_nodup (L : List Dot) (r : Nat) (base : Int) : (listF L r base).Nodup := (dl_nodup _).sublist (List.take_sublist _ _)
theorem list_sub {L : List Dot} {r : Nat} {base n : Int} (h : n ∈ listF L r base) : ∃ p ∈ L, p.2 = n := by
  have := List.mem_of_mem_take h
  rw [dl_mem, List.mem_map] at this
  obtain ⟨p, hp, e⟩ := this
  exact ⟨p, rot_mem.1 hp, e⟩
/-- numbers that are those from 1 to n, each once -/
theorem upto_len {l : List Int} {n : Nat} (hn : l.Nodup) (h : ∀ x, x ∈ l ↔ 1 ≤ x ∧ x ≤ n) : l.length = n := by
  have hp : l.Perm ((List.range n).map fun k : Nat => (k : Int) + 1) := (List.perm_ext_iff_of_nodup hn (by
    rw [List.Nodup, List.pairwise_map]
    exact List.nodup_range.imp fun {a b} k e => k (by omega))).2 fun x => by
    rw [h, List.mem_map]
    constructor
    · rintro ⟨h1, h2⟩
      exact ⟨(x - 1).toNat, List.mem_range.2 (by omega), by omega⟩
    · rintro ⟨k, hk, rfl⟩
      have := List.mem_range.1 hk
      omega
  rw [hp.length_eq, List.length_map, List.length_range]
theorem list_len {L : List Dot} {r n : Nat} {base : Int} (h : ∀ x, (∃ p ∈ L, p.2 = x) ↔ 1 ≤ x ∧ x ≤ n) (hr : r ≤ n) : (listF L r base).length = r := by
  unfold listF
  rw [List.length_take, upto_len (dl_nodup _) (n := n) fun x => ?_]
  · omega
  · rw [dl_mem, List.mem_map, ← h x]
    exact ⟨fun ⟨p, hp, e⟩ => ⟨p, rot_mem.1 hp, e⟩, fun ⟨p, hp, e⟩ => ⟨p, rot_mem.2 hp, e⟩⟩
/-- RingGrows: without the new node the list is a part of what there was, from its first one on -/
theorem list_grows {L : List Dot} {r : Nat} {base d : Int} : ((listF L r base).filter fun x => !decide (x = d)) <+: listF (L.filter fun p => !decide (p.2 = d)) r base := by
  unfold listF
  have e : dl ((rotF base (L.filter fun p => !decide (p.2 = d))).map (·.2)) = (dl ((rotF base L).map (·.2))).filter fun x => !decide (x = d) := by
    rw [rot_filter, ← dl_filter, List.filter_map]; rfl
  rw [e]
  generalize dl ((rotF base L).map (·.2)) = l
  have h1 : ((l.take r).filter fun x => !decide (x = d)) <+: l.filter fun x => !decide (x = d) := List.IsPrefix.filter _ (List.take_prefix _ _)
  have h2 : ((l.take r).filter fun x => !decide (x = d)).length ≤ r := Nat.le_trans (List.length_filter_le _ _) (by rw [List.length_take]; omega)
  exact List.prefix_take_iff.2 ⟨h1, h2⟩
end Go.Proofs.YthhlcdacmlnjdaaGreat.Rg
namespace Go.Proofs.YthhlcdacmlnjdaaGreat.Rg
open Go Go.RowKit Go.Aw Go.Aw.Cart Go.Aw.Ord Go.Sort Go.Proofs.YthhlcdacmlnjdaaGreat.Ca
set_option linter.unusedVariables false
set_option linter.unusedSimpArgs false
set_option maxRecDepth 8000
set_option maxHeartbeats 4000000
/-! counting twice -/
def sm (g : Nat → Nat) : Nat → Nat
  | 0 => 0
  | n + 1 => sm g n + g n
theorem sm_add (g h : Nat → Nat) : ∀ n, sm (fun k => g k + h k) n = sm g n + sm h n
  | 0 => rfl
  | n + 1 => by rw [sm, sm, sm, sm_add g h n]; omega
theorem sm_zero : ∀ n, sm (fun _ => 0) n = 0
  | 0 => rfl
  | n + 1 => by rw [sm, sm_zero n]
theorem sm_congr {g h : Nat → Nat} : ∀ {n : Nat}, (∀ k, k < n → g k = h k) → sm g n = sm h n
  | 0, _ => rfl
  | n + 1, e => by rw [sm, sm, sm_congr fun k hk => e k (by omega), e n (by omega)]
theorem range_filter (q : Nat → Bool) (n : Nat) : ((List.range (n + 1)).filter q).length = ((List.range n).filter q).length + if q n = true then 1 else 0 := by
  rw [List.range_succ, List.filter_append, List.length_append]
  congr 1
  by_cases h : q n = true
  · rw [List.filter_cons_of_pos h, if_pos h]; rfl
  · rw [List.filter_cons_of_neg h, if_neg h]; rfl
theorem filter_sm (q : Nat → Bool) : ∀ n, ((List.range n).filter q).length = sm (fun k => if q k = true then 1 else 0) n
  | 0 => rfl
  | n + 1 => by rw [range_filter, filter_sm q n, sm]
theorem twice (q : Nat → Nat → Bool) (m : Nat) : ∀ n, sm (fun k => ((List.range m).filter (q k)).length) n = sm (fun p => ((List.range n).filter fun k => q k p).length) m
  | 0 => by rw [sm]; exact (sm_zero m).symm
  | n + 1 => by
    rw [sm, twice q m n, filter_sm, ← sm_add]
    exact sm_congr fun p _ => (range_filter (fun k => q k p) n).symm
theorem count_in {l : List Int} {n : Nat} (hn : l.Nodup) (h : ∀ x ∈ l, 1 ≤ x ∧ x ≤ n) : ((List.range n).filter fun k : Nat => decide (((k : Int) + 1) ∈ l)).length = l.length := by
  have hp : (((List.range n).filter fun k : Nat => decide (((k : Int) + 1) ∈ l)).map fun k : Nat => (k : Int) + 1).Perm l := (List.perm_ext_iff_of_nodup (by
    rw [List.Nodup, List.pairwise_map]
    exact (List.nodup_range.sublist List.filter_sublist).imp fun {a b} k e => k (by omega)) hn).2 fun x => by
    rw [List.mem_map]
    constructor
    · rintro ⟨k, hk, rfl⟩
      exact of_decide_eq_true (List.mem_filter.1 hk).2
    · intro hx
      have := h x hx
      exact ⟨(x - 1).toNat, List.mem_filter.2 ⟨List.mem_range.2 (by omega), decide_eq_true (by rw [show (((x - 1).toNat : Nat) : Int) + 1 = x by omega]; exact hx)⟩, by omega⟩
  rw [← hp.length_eq, List.length_map]
/-- RingHolds: of m parts each is held by r nodes: all nodes' parts are m * r -/
theorem parts_sum {f : Nat → List Int} {m n r : Nat} (hf : ∀ p, p < m → (f p).Nodup ∧ (∀ x ∈ f p, 1 ≤ x ∧ x ≤ n) ∧ (f p).length = r) :
    sm (fun k : Nat => ((List.range m).filter fun p : Nat => decide (((k : Int) + 1) ∈ f p)).length) n = m * r := by
  rw [twice (fun (k p : Nat) => decide (((k : Int) + 1) ∈ f p)) m n, sm_congr (h := fun _ => r) fun p hp => by rw [count_in (hf p hp).1 (hf p hp).2.1]; exact (hf p hp).2.2]
  clear hf
  induction m with
  | zero => simp [sm]
  | succ m ih => rw [sm, ih, Nat.succ_mul]
/-! points put in one by one -/
def leP (a b : Dot) : Prop := a.1 ≤ b.1
instance leP_dec (a b : Dot) : Decidable (leP a b) := by unfold leP; infer_instance
theorem ins_up {e : Dot} : ∀ {L : List Dot}, upI ltD L → (∀ a ∈ L, a.2 ≤ e.2) → upI ltD (insI leP e L)
  | [], _, _ => by rw [insI_nil]; exact List.pairwise_singleton _ _
  | x :: L, h, hn => by
    rw [insI_cons]
    obtain ⟨h1, h2⟩ := List.pairwise_cons.1 h
    split
    · rename_i hx
      refine List.pairwise_cons.2 ⟨fun y hy => ?_, ins_up h2 fun a ha => hn a (List.mem_cons_of_mem _ ha)⟩
      rcases insI_mem.1 hy with rfl | k
      · have := hn x List.mem_cons_self
        unfold leP at hx; unfold ltD; omega
      · exact h1 y k
    · rename_i hx
      unfold leP at hx
      refine List.pairwise_cons.2 ⟨fun y hy => ?_, h⟩
      rcases List.mem_cons.1 hy with rfl | k
      · unfold ltD; omega
      · have := h1 y k
        unfold ltD at this ⊢; omega
def inP (l : List Dot) : Nat → List Dot
  | 0 => []
  | k + 1 => insI leP (l.getD k default) (inP l k)
theorem inP_is {l : List Dot} (hl : l.Pairwise fun a b => a.2 ≤ b.2) : ∀ k, k ≤ l.length → (inP l k).Perm (l.take k) ∧ upI ltD (inP l k)
  | 0, _ => ⟨by rw [inP, List.take_zero], List.Pairwise.nil⟩
  | k + 1, h => by
    obtain ⟨h1, h2⟩ := inP_is hl k (by omega)
    have hk : k < l.length := by omega
    refine ⟨?_, ins_up h2 fun a ha => ?_⟩
    · rw [inP, take_get' hk]
      exact insI_perm.trans ((h1.cons _).trans (List.perm_append_comm (l₁ := [l.getD k default]) (l₂ := l.take k)))
    · have ha' := h1.mem_iff.1 ha
      obtain ⟨i, hi, rfl⟩ := List.mem_take_iff_getElem.1 ha'
      rw [getD_at hk]
      exact List.pairwise_iff_getElem.1 hl i k (by omega) hk (by omega)
theorem inP_all {l : List Dot} (hl : l.Pairwise fun a b => a.2 ≤ b.2) : inP l l.length = sortD l := by
  obtain ⟨h1, h2⟩ := inP_is hl l.length (Nat.le_refl _)
  rw [List.take_length] at h1
  exact up_uniq ltD_tot (h1.trans (sortD_perm l).symm) h2 (sortD_up l)
/-! the reference goes round twice -/
theorem ref_list (L : List Dot) (base : Int) : dl (((L.filter fun p => decide (base ≤ p.1)) ++ L).map (·.2)) = dl ((rotF base L).map (·.2)) := by
  unfold rotF
  rw [List.map_append, List.map_append]
  -- what stands at the base or behind it has come already
  have key : ∀ M : List Dot, (∀ p ∈ M, base ≤ p.1 → p ∈ L) → dl ((L.filter fun p => decide (base ≤ p.1)).map (·.2) ++ M.map (·.2)) = dl ((L.filter fun p => decide (base ≤ p.1)).map (·.2) ++ (M.filter fun p => !decide (base ≤ p.1)).map (·.2)) := by
    refine snoc_ind (fun _ => rfl) fun M x ih h => ?_
    have ih' := ih fun p hp => h p (List.mem_append_left _ hp)
    rw [List.map_append, ← List.append_assoc, List.map_singleton, dl_snoc, ih', List.filter_append]
    by_cases hx : base ≤ x.1
    · rw [List.filter_cons_of_neg (by rw [decide_eq_true hx]; simp), List.filter_nil, List.append_nil, if_pos]
      rw [dl_mem, List.mem_append, List.mem_map]
      exact .inl ⟨x, List.mem_filter.2 ⟨h x (by simp) hx, decide_eq_true hx⟩, rfl⟩
    · rw [List.filter_cons_of_pos (by rw [decide_eq_false hx]; rfl), List.filter_nil, List.map_append, ← List.append_assoc, List.map_singleton, dl_snoc]
  exact key L fun p hp _ => hp
end Go.Proofs.YthhlcdacmlnjdaaGreat.Rg
namespace Go.Proofs.YthhlcdacmlnjdaaGreat.Rg
open Go Go.RowKit Go.Aw Go.Aw.Cart Go.Aw.Ord Go.Sort Go.Proofs.YthhlcdacmlnjdaaGreat.Ca
set_option linter.unusedVariables false
set_option linter.unusedSimpArgs false
set_option maxRecDepth 8000
set_option maxHeartbeats 4000000
abbrev iR (n : Int) : List PVal := [.i n]
abbrev uR (n : Int) : List PVal := [.k .u64 n]
namespace W2
theorem lopC {C : Ctx} {o : Oper} {σ : St} {e : Eff} {ro : Nat → Bool} (h : LOp C o σ e ro := by
    first
      | (apply gCallF; (focus rfl); first
          | (apply lop_lend2; (focus rfl); (focus exact inferInstance); (focus rfl); (focus rfl); (focus rfl); (focus exact (List.length_map ..).symm); (focus first | exact lk_m1 rfl | exact lk_m2 rfl | exact lk_m3 rfl | exact lk_o rfl | exact lk_a2 rfl | exact lk_a3 rfl | exact lk_a4 rfl | exact lk_a1 rfl | exact lk_a5 rfl | exact lk_a6 rfl | exact lk_a7 rfl | exact lk_a8 rfl | exact lk_a rfl); (focus exact inferInstance); (focus exact inferInstance); (focus first | exact True.intro | assumption | rfl | omega | ((repeat' (first | assumption | refine And.intro ?_ ?_ | omega | rfl)); done) | fail); (focus exact RV.v); (focus rfl)))
      | exact lopQ
      | fail) : LOp C o σ e ro := h
section steps
variable {C : Ctx} {ops : Array Oper} {o : Oper} {rest : List Oper} {K : St → Prop} {σ : St} {e : Eff} {ro : Nat → Bool} {W : List (Nat × Nat)} {i : Nat}
theorem rnC {d : Nat} (hk : RunN C ops rest K (e.app (some d) σ)) (hg : Guard ops σ o true := by first | exact gd_n rfl rfl | exact gd_t rfl rfl rfl rfl | exact gd_t rfl rfl rfl (by assumption)) (hd : o.dst = some d := by rfl) (h : LOp C o σ e ro := by exact lopC) : RunN C ops (o :: rest) K σ := rn_any hg hd h hk
theorem rkC {d : Nat} (hk : RunK C ops W (i + 1) rest K (e.app (some d) σ)) (hg : Guard ops σ o true := by first | exact gd_n rfl rfl | exact gd_t rfl rfl rfl rfl | exact gd_t rfl rfl rfl (by assumption)) (hd' : o.dst = some d := by rfl) (hd : dOk C o.dst = true := by rfl) (h : LOp C o σ e ro := by exact lopC)
    (hro : ∀ x, ro x = true → okObj ops W i x = true := by first | exact fun _ => ro_none | exact ro_one rfl | exact ro_one (by kernel_rfl) | exact ro_kIn (by decide)) (hob : ∀ p ∈ e.obj, (i, p.1) ∈ W := by first | exact ob_none | exact ob_one (by decide) | decide) : RunK C ops W i (o :: rest) K σ := rk_wr hg hd' hd h hro hob hk
end steps
end W2
open W2
def rRight (n v r : Int) : Bool := decide (1 ≤ n ∧ n ≤ 8 ∧ 1 ≤ v ∧ v ≤ 16 ∧ 1 ≤ r ∧ r ≤ n)
theorem within_r (n t : Int) : PCall Tryz.prog 49 [.p (.i n), .p (.i t)] (.p (.b (decide (1 ≤ n ∧ n ≤ t)))) := by
  refine pcall_of Tryz.func49 rfl (fun w0 F S0 M0 => ?_)
  by_cases h1 : 1 ≤ n
  · have d1 : decide (1 ≤ n) = true := decide_eq_true h1
    rw [decide_eq_decide.2 (show (1 ≤ n ∧ n ≤ t) ↔ n ≤ t from ⟨fun k => k.2, fun k => ⟨h1, k⟩⟩)]
    as_aux_lemma =>
      repeat' (first
          | refine rnC ?_
          | refine rnSB ?_
          | refine rnG ?_
          | refine rnU ?_
          | ((fail_if_success (refine rnKn ?_)); refine rnP ?_ ?_ <;> (intro hq; try (have hq' := hq; simp only [hqs] at hq')))
          | refine rkC ?_
          | refine rkSB ?_
          | refine rkF ?_
          | refine rkU ?_
          | ((fail_if_success (refine rkKn ?_)); refine rkP ?_ ?_ <;> (intro hq; try (have hq' := hq; simp only [hqs] at hq')))
          | refine stp ?_
          | refine aws_draws [] mixed (by kernel_rfl) ?_
          | refine ifT ?_
          | refine ifF ?_
          | (refine ifQ ?_ ?_ <;> (try (intro hn)))
          | (refine ifB ?_ ?_ <;> (intro hq; try (have hq' := hq; simp only [hqs] at hq'))))
      exact rt1 rfl rfl finS_p rfl
  · have d1 : decide (1 ≤ n) = false := decide_eq_false h1
    rw [decide_eq_false (fun k => h1 k.1)]
    as_aux_lemma =>
      repeat' (first
          | refine rnC ?_
          | refine rnSB ?_
          | refine rnG ?_
          | refine rnU ?_
          | ((fail_if_success (refine rnKn ?_)); refine rnP ?_ ?_ <;> (intro hq; try (have hq' := hq; simp only [hqs] at hq')))
          | refine rkC ?_
          | refine rkSB ?_
          | refine rkF ?_
          | refine rkU ?_
          | ((fail_if_success (refine rkKn ?_)); refine rkP ?_ ?_ <;> (intro hq; try (have hq' := hq; simp only [hqs] at hq')))
          | refine stp ?_
          | refine aws_draws [] mixed (by kernel_rfl) ?_
          | refine ifT ?_
          | refine ifF ?_
          | (refine ifQ ?_ ?_ <;> (try (intro hn)))
          | (refine ifB ?_ ?_ <;> (intro hq; try (have hq' := hq; simp only [hqs] at hq'))))
      exact rt1 rfl rfl finS_p rfl
instance within_ri {n t : Int} : PC Tryz.prog 49 [.p (.i n), .p (.i t)] True (.p (.b (decide (1 ≤ n ∧ n ≤ t)))) := ⟨fun _ => within_r n t⟩
theorem ringRight_w (n v r : Int) : PCall Tryz.prog 30 [.a [.p (.i n), .p (.i v), .p (.i r)]] (.p (.b (rRight n v r))) := by
  refine pcall_of Tryz.func30 rfl (fun w0 F S0 M0 => ?_)
  unfold rRight
  by_cases h1 : 1 ≤ n ∧ n ≤ 8
  · have d1 : decide (1 ≤ n ∧ n ≤ 8) = true := decide_eq_true h1
    by_cases h2 : 1 ≤ v ∧ v ≤ 16
    · have d2 : decide (1 ≤ v ∧ v ≤ 16) = true := decide_eq_true h2
      rw [decide_eq_decide.2 (show (1 ≤ n ∧ n ≤ 8 ∧ 1 ≤ v ∧ v ≤ 16 ∧ 1 ≤ r ∧ r ≤ n) ↔ (1 ≤ r ∧ r ≤ n) by omega)]
      as_aux_lemma =>
        repeat' (first
            | refine rnC ?_
            | refine rnSB ?_
            | refine rnG ?_
            | refine rnU ?_
            | ((fail_if_success (refine rnKn ?_)); refine rnP ?_ ?_ <;> (intro hq; try (have hq' := hq; simp only [hqs] at hq')))
            | refine rkC ?_
            | refine rkSB ?_
            | refine rkF ?_
            | refine rkU ?_
            | ((fail_if_success (refine rkKn ?_)); refine rkP ?_ ?_ <;> (intro hq; try (have hq' := hq; simp only [hqs] at hq')))
            | refine stp ?_
            | refine aws_draws [] mixed (by kernel_rfl) ?_
            | refine ifT ?_
            | refine ifF ?_
            | (refine ifQ ?_ ?_ <;> (try (intro hn)))
            | (refine ifB ?_ ?_ <;> (intro hq; try (have hq' := hq; simp only [hqs] at hq'))))
        exact rt1 rfl rfl finS_p rfl
    · have d2 : decide (1 ≤ v ∧ v ≤ 16) = false := decide_eq_false h2
      rw [decide_eq_false (by omega)]
      as_aux_lemma =>
        repeat' (first
            | refine rnC ?_
            | refine rnSB ?_
            | refine rnG ?_
            | refine rnU ?_
            | ((fail_if_success (refine rnKn ?_)); refine rnP ?_ ?_ <;> (intro hq; try (have hq' := hq; simp only [hqs] at hq')))
            | refine rkC ?_
            | refine rkSB ?_
            | refine rkF ?_
            | refine rkU ?_
            | ((fail_if_success (refine rkKn ?_)); refine rkP ?_ ?_ <;> (intro hq; try (have hq' := hq; simp only [hqs] at hq')))
            | refine stp ?_
            | refine aws_draws [] mixed (by kernel_rfl) ?_
            | refine ifT ?_
            | refine ifF ?_
            | (refine ifQ ?_ ?_ <;> (try (intro hn)))
            | (refine ifB ?_ ?_ <;> (intro hq; try (have hq' := hq; simp only [hqs] at hq'))))
        exact rt1 rfl rfl finS_p rfl
  · have d1 : decide (1 ≤ n ∧ n ≤ 8) = false := decide_eq_false h1
    rw [decide_eq_false (by omega)]
    as_aux_lemma =>
      repeat' (first
          | refine rnC ?_
          | refine rnSB ?_
          | refine rnG ?_
          | refine rnU ?_
          | ((fail_if_success (refine rnKn ?_)); refine rnP ?_ ?_ <;> (intro hq; try (have hq' := hq; simp only [hqs] at hq')))
          | refine rkC ?_
          | refine rkSB ?_
          | refine rkF ?_
          | refine rkU ?_
          | ((fail_if_success (refine rkKn ?_)); refine rkP ?_ ?_ <;> (intro hq; try (have hq' := hq; simp only [hqs] at hq')))
          | refine stp ?_
          | refine aws_draws [] mixed (by kernel_rfl) ?_
          | refine ifT ?_
          | refine ifF ?_
          | (refine ifQ ?_ ?_ <;> (try (intro hn)))
          | (refine ifB ?_ ?_ <;> (intro hq; try (have hq' := hq; simp only [hqs] at hq'))))
      exact rt1 rfl rfl finS_p rfl
instance ringRight_i {n v r : Int} : PC Tryz.prog 30 [.a [.p (.i n), .p (.i v), .p (.i r)]] True (.p (.b (rRight n v r))) := ⟨fun _ => ringRight_w n v r⟩
theorem refRight_w (n v r : Int) : PCall Tryz.prog 8 [.p (.i n), .p (.i v), .p (.i r)] (.p (.b (rRight n v r))) := by
  refine pcall_of Tryz.func8 rfl (fun w0 F S0 M0 => ?_)
  unfold rRight
  as_aux_lemma =>
    repeat' (first
        | refine rnC ?_
        | refine rnSB ?_
        | refine rnG ?_
        | refine rnU ?_
        | ((fail_if_success (refine rnKn ?_)); refine rnP ?_ ?_ <;> (intro hq; try (have hq' := hq; simp only [hqs] at hq')))
        | refine rkC ?_
        | refine rkSB ?_
        | refine rkF ?_
        | refine rkU ?_
        | ((fail_if_success (refine rkKn ?_)); refine rkP ?_ ?_ <;> (intro hq; try (have hq' := hq; simp only [hqs] at hq')))
        | refine stp ?_
        | refine aws_draws [] mixed (by kernel_rfl) ?_
        | refine ifT ?_
        | refine ifF ?_
        | (refine ifQ ?_ ?_ <;> (try (intro hn)))
        | (refine ifB ?_ ?_ <;> (intro hq; try (have hq' := hq; simp only [hqs] at hq'))))
    all_goals refine rt1 rfl rfl finS_p (rb ?_)
    all_goals first | exact decide_eq_decide.2 (by omega) | exact decide_eq_true (by omega) | exact decide_eq_false (by omega)
instance refRight_i {n v r : Int} : PC Tryz.prog 8 [.p (.i n), .p (.i v), .p (.i r)] True (.p (.b (rRight n v r))) := ⟨fun _ => refRight_w n v r⟩
theorem in_w (l : List Int) (ex : Bool) (n : Int) (h : l.length ≤ 1000000000) : PCall Tryz.prog 59 [.p (.sl 1 (l.map iR) ex), .p (.i n)] (.p (.b (decide (n ∈ l)))) := by
  refine pcall_of Tryz.func59 rfl (fun w0 F S0 M0 => ?_)
  repeat' (first
      | refine rnC ?_
      | refine rnSB ?_
      | refine rnG ?_
      | refine rnU ?_
      | ((fail_if_success (refine rnKn ?_)); refine rnP ?_ ?_ <;> (intro hq; try (have hq' := hq; simp only [hqs] at hq')))
      | refine rkC ?_
      | refine rkSB ?_
      | refine rkF ?_
      | refine rkU ?_
      | ((fail_if_success (refine rkKn ?_)); refine rkP ?_ ?_ <;> (intro hq; try (have hq' := hq; simp only [hqs] at hq')))
      | refine stp ?_
      | refine ifT ?_
      | refine ifF ?_
      | (refine ifQ ?_ ?_ <;> (try (intro hn)))
      | (refine ifB ?_ ?_ <;> (intro hq; try (have hq' := hq; simp only [hqs] at hq'))))
  refine aws_loopS [4, 5, 6, 7, 8, 9, 10, 11, 12, 13, 14, 15, 16, 17] [] (fun (i : Nat) => [(5, .p (.i i))]) (fun _ => []) (fun i => i ≤ l.length ∧ ∀ j, j < i → l.getD j default ≠ n) (fun i => l.length - i) 0 ⟨Nat.zero_le _, fun j hj => absurd hj (Nat.not_lt_zero _)⟩ (by exact knA) (by exact knA) ?_
  rintro i β γ ⟨hi, hx⟩
  by_cases hil : i < l.length
  · have d1 : decide ((i : Int) < (l.length : Int)) = true := decide_eq_true (by omega)
    have ei : (i : Int).toNat = i := Int.toNat_natCast i
    by_cases hq : l.getD (i : Int).toNat default = n
    · have d2 : decide (l.getD (i : Int).toNat default = n) = true := decide_eq_true hq
      rw [decide_eq_true (show n ∈ l by rw [← hq, ei, getD_at hil]; exact List.getElem_mem _)]
      as_aux_lemma =>
        repeat' (first
            | refine rnC ?_
            | refine rnSB ?_
            | refine rnG ?_
            | refine rnU ?_
            | ((fail_if_success (refine rnKn ?_)); refine rnP ?_ ?_ <;> (intro hq; try (have hq' := hq; simp only [hqs] at hq')))
            | refine rkC ?_
            | refine rkSB ?_
            | refine rkF ?_
            | refine rkU ?_
            | ((fail_if_success (refine rkKn ?_)); refine rkP ?_ ?_ <;> (intro hq; try (have hq' := hq; simp only [hqs] at hq')))
            | refine stp ?_
            | refine ifT ?_
            | refine ifF ?_
            | (refine ifQ ?_ ?_ <;> (try (intro hn)))
            | (refine ifB ?_ ?_ <;> (intro hq; try (have hq' := hq; simp only [hqs] at hq'))))
        exact rt1 rfl rfl finS_p rfl
    · have d2 : decide (l.getD (i : Int).toNat default = n) = false := decide_eq_false hq
      rw [ei] at hq
      repeat' (first
          | refine rnC ?_
          | refine rnSB ?_
          | refine rnG ?_
          | refine rnU ?_
          | ((fail_if_success (refine rnKn ?_)); refine rnP ?_ ?_ <;> (intro hq; try (have hq' := hq; simp only [hqs] at hq')))
          | refine rkC ?_
          | refine rkSB ?_
          | refine rkF ?_
          | refine rkU ?_
          | ((fail_if_success (refine rkKn ?_)); refine rkP ?_ ?_ <;> (intro hq; try (have hq' := hq; simp only [hqs] at hq')))
          | refine stp ?_
          | refine ifT ?_
          | refine ifF ?_
          | (refine ifQ ?_ ?_ <;> (try (intro hn)))
          | (refine ifB ?_ ?_ <;> (intro hq; try (have hq' := hq; simp only [hqs] at hq'))))
      refine ⟨i + 1, _, by omega, ⟨by omega, fun j hj => ?_⟩, .refl, by exact frA⟩
      by_cases e : j = i
      · rw [e]; exact hq
      · exact hx j (by omega)
  · have d1 : decide ((i : Int) < (l.length : Int)) = false := decide_eq_false (by omega)
    rw [decide_eq_false (show n ∉ l from fun k => by
      obtain ⟨j, hj, q⟩ := getD_mem k
      exact hx j (by omega) q)]
    as_aux_lemma =>
      repeat' (first
          | refine rnC ?_
          | refine rnSB ?_
          | refine rnG ?_
          | refine rnU ?_
          | ((fail_if_success (refine rnKn ?_)); refine rnP ?_ ?_ <;> (intro hq; try (have hq' := hq; simp only [hqs] at hq')))
          | refine rkC ?_
          | refine rkSB ?_
          | refine rkF ?_
          | refine rkU ?_
          | ((fail_if_success (refine rkKn ?_)); refine rkP ?_ ?_ <;> (intro hq; try (have hq' := hq; simp only [hqs] at hq')))
          | refine stp ?_
          | refine ifT ?_
          | refine ifF ?_
          | (refine ifQ ?_ ?_ <;> (try (intro hn)))
          | (refine ifB ?_ ?_ <;> (intro hq; try (have hq' := hq; simp only [hqs] at hq'))))
      exact rt1 rfl rfl finS_p rfl
instance in_i {l : List Int} {ex : Bool} {n : Int} : PC Tryz.prog 59 [.p (.sl 1 (l.map iR) ex), .p (.i n)] (l.length ≤ 1000000000) (.p (.b (decide (n ∈ l)))) := ⟨in_w l ex n⟩
end Go.Proofs.YthhlcdacmlnjdaaGreat.Rg
namespace Go.Aw
open Go Go.RowKit
set_option linter.unusedVariables false
set_option linter.unusedSimpArgs false

/-- one step of the forms of code, but for a return and a body's end -/
theorem stpE {X Y : Prop} (h : Y) (e : Y → X := by
    first
      | exact rn_nil
      | exact rk_nil
      | exact aws_seq
      | exact aws_region
      | exact aws_skip
      | exact aws_label
      | exact aws_goto
      | exact aws_exit
      | exact aws_blk_s
      | exact aws_blk_r
      | exact aws_blk_c
      | exact blk_exit
      | exact blk_normal
      | exact blk_ret
      | fail) : X := e h
/-- a method's value -/
theorem lop_mfb {C : Ctx} {o : Oper} {σ : St} {f : FuncId} {x : Operand} {ob g off : Nat} (ho : o.op = .makeFunc (.func f) #[x] #[]) (hx : σ.look x = .o (.ptr ob g off)) (hd : dOk C o.dst = true) : LOp C o σ ⟨.o (.bm f ob g off), []⟩ (fun _ => false) :=
  lop_val hd fun τ a w G hl hm h => by
    obtain ⟨b, c, k1, k2⟩ := look_of h ((hl x (by simp [ho, Op.operands])).trans hx)
    exact ⟨.func (.func f) #[a.eval x] #[], by simp [execOp, ho, Instr.makeFunc], b, c, k1, by rw [k2]⟩

theorem setCell_heap {w : World} {b ty : Nat} {arr : Array Value} {fr : Nat × Nat} (h : w.heap[b]? = some (.cells arr ty fr)) (i : Nat) (v : Value) : (w.setCell ⟨b, i, none⟩ v).heap[b]? = some (.cells (arr.setIfInBounds i v) ty fr) := by
  simp only [World.setCell, Array.getElem?_modify, if_true, h, Option.map_some]
  simp
theorem setCell_other {w : World} {b i k : Nat} {v : Value} (h : k ≠ b) : (w.setCell ⟨b, i, none⟩ v).heap[k]? = w.heap[k]? := by
  simp only [World.setCell, Array.getElem?_modify]
  rw [if_neg (fun e => h e.symm)]
theorem All2.set {α β : Type} {R : α → β → Prop} {l : List α} {m : List β} (h : All2 R l m) (i : Nat) {a : α} {b : β} (hab : R a b) : All2 R (l.set i a) (m.set i b) := by
  refine ⟨by simp [h.1], fun j x y hx hy => ?_⟩
  rw [List.getElem?_set] at hx hy
  by_cases hij : i = j
  · subst hij
    rw [if_pos rfl] at hx hy
    split at hx
    · rw [if_pos (by rw [← h.1]; assumption)] at hy
      cases hx; cases hy; exact hab
    · cases hx
  · rw [if_neg hij] at hx hy
    exact h.2 j x y hx hy
/-- a cell of a variable -/
theorem cell_on {μ : Mu} {X : Wd} {w : World} {b ty i : Nat} {arr : List Value} {cs : List AC} {x : Value} (hh : w.heap[b]? = some (.cells arr.toArray ty (0, 0))) (ha : All2 (AC.holds μ X) cs arr) (hc : cs[i]? = some (.p (.v x))) : w.cell? ⟨b, i, none⟩ = some x ∧ w.frozen? ⟨b, i, none⟩ = false := by
  obtain ⟨v, hv, hx, _⟩ := ha.get hc
  refine ⟨?_, ?_⟩
  · simp only [World.cell?, hh]
    simp [hv, hx]
  · simp only [World.frozen?, hh]
    simp
/-- one cell of a variable turns -/
theorem ObjG.setBox {mem : Nat → Nat × Option MO} {w : World} {G : Gh} {o g ty b c i : Nat} {cs : List AC} {q : AC} {v : Value} (ho : ObjG mem w G) (hm : mem o = (g + 1, some (.box ty cs))) (hb : (G.μ o)[g]? = some (some b, c)) (hv : ∀ X, q.holds G.μ X v) :
    ObjG (fun x => if x = o then (g + 1, some (.box ty (cs.set i q))) else mem x) (w.setCell ⟨b, i, none⟩ v) G := by
  obtain ⟨g', m, e1, e2, b', arr, e3, e4, e5, e6⟩ := ho.mem o _ _ hm
  obtain rfl : g = g' := by omega
  rw [hb] at e2
  obtain rfl := Option.some.inj e2
  simp only [Option.some.injEq] at e3
  subst e3
  have hle : Wd.le ⟨w, G.S⟩ ⟨w.setCell ⟨b, i, none⟩ v, G.S⟩ := fun k hk => ⟨hk, setCell_other fun e => ho.stab o b (by rw [e4]; simp) (e ▸ hk)⟩
  exact {
    gens := fun x => by
      by_cases hx : x = o
      · subst hx; simpa [hm] using ho.gens x
      · simpa [hx] using ho.gens x
    mem := fun x n mo hx => by
      by_cases hxo : x = o
      · subst hxo
        simp only [if_true, Prod.mk.injEq, Option.some.injEq] at hx
        obtain ⟨rfl, rfl⟩ := hx
        refine ⟨g, _, rfl, hb, b, arr.set i v, rfl, e4, ?_, (e6.mono fun _ _ k => k.mono (Mu.le.refl _) hle).set i (hv _)⟩
        have := setCell_heap e5 i v
        simpa using this
      · simp only [hxo, if_false] at hx
        obtain ⟨g2, m2, h1, h2, h3⟩ := ho.mem x n mo hx
        exact ⟨g2, m2, h1, h2, h3.mono (Mu.le.refl _) hle fun k hk => setCell_other fun e => ho.apart x o k hxo hk (by rw [e, e4]; simp)⟩
    apart := ho.apart
    stab := ho.stab
    own := fun x k hk => by rw [World.size_setCell]; exact ho.own x k hk
    sbd := fun k hk => by rw [World.size_setCell]; exact ho.sbd k hk }
theorem ObjG.drew {mem : Nat → Nat × Option MO} {w : World} {G : Gh} (ho : ObjG mem w G) : ObjG mem w.drew G := {
  gens := ho.gens
  mem := fun x n mo hx => by
    obtain ⟨g2, m2, h1, h2, h3⟩ := ho.mem x n mo hx
    exact ⟨g2, m2, h1, h2, h3.mono (Mu.le.refl _) (fun b hb => ⟨hb, rfl⟩) fun _ _ => rfl⟩
  apart := ho.apart
  stab := ho.stab
  own := ho.own
  sbd := ho.sbd }
theorem memL_one {o : Nat} {m m' : Nat × Option MO} : (fun x => if x = o then m' else memL [(o, m)] x) = memL [(o, m')] := by
  funext x
  by_cases hx : x = o <;> simp [memL, hx]
/-- what Do is asked of: the Once's word and lock are free, and what is done leaves them so -/
def OnceRaw (P : Program) (D L i : Nat) : Prop := ∀ (b : Nat) (w : World) (R : World → Prop),
  w.cell? ⟨b, i, none⟩ = some (.int .u32 0) → w.cell? ⟨b, i + 1, none⟩ = some (.int .i32 0) → w.frozen? ⟨b, i, none⟩ = false → w.frozen? ⟨b, i + 1, none⟩ = false →
  Calls P L #[.pointer (some ⟨b, 0, none⟩)] (w.setCell ⟨b, i + 1, none⟩ (.int .i32 1)) (fun e w' => e = .returned (.tuple #[]) ∧ R w') →
  (∀ w', R w' → w'.cell? ⟨b, i, none⟩ = some (.int .u32 0) ∧ w'.cell? ⟨b, i + 1, none⟩ = some (.int .i32 1) ∧ w'.frozen? ⟨b, i, none⟩ = false ∧ w'.frozen? ⟨b, i + 1, none⟩ = false) →
  Calls P D #[.pointer (some ⟨b, i, none⟩), .func (.func L) #[.pointer (some ⟨b, 0, none⟩)] #[]] w fun e w' => e = .returned (.tuple #[]) ∧ ∃ w2, R w2 ∧ w' = (w2.drew.setCell ⟨b, i, none⟩ (.int .u32 1)).setCell ⟨b, i + 1, none⟩ (.int .i32 0)
theorem once_o {P : Program} {D L ty i q : Nat} {cs cs' : List AC} (raw : OnceRaw P D L i)
    (h0 : cs[i]? = some (.p (.k .u32 0))) (h1 : cs[i + 1]? = some (.p (.k .i32 0))) (h0' : cs'[i]? = some (.p (.k .u32 0))) (h1' : cs'[i + 1]? = some (.p (.k .i32 1)))
    (hL : OCall P L [.o (.ptr 1000 q 0)] (memL [(1000, (q + 1, some (.box ty (cs.set (i + 1) (.p (.k .i32 1))))))]) (.tup []) (memL [(1000, (q + 1, some (.box ty cs')))])) :
    OCall P D [.o (.ptr 1000 q i), .o (.bm L 1000 q 0)] (memL [(1000, (q + 1, some (.box ty cs)))]) (.tup []) (memL [(1000, (q + 1, some (.box ty ((cs'.set i (.p (.k .u32 1))).set (i + 1) (.p (.k .i32 0))))))]) := by
  intro w G vs ho ha
  obtain ⟨v0, vs1, rfl, ⟨b, c, p1, rfl⟩, ha1⟩ := ha.cons_inv
  obtain ⟨v1, vs2, rfl, ⟨b', c', p2, rfl⟩, ha2⟩ := ha1.cons_inv
  obtain rfl := ha2.nil_inv
  rw [p1] at p2
  simp only [Option.some.injEq, Prod.mk.injEq] at p2
  obtain ⟨rfl, rfl⟩ := p2
  have hm : memL [(1000, (q + 1, some (MO.box ty cs)))] 1000 = (q + 1, some (.box ty cs)) := rfl
  obtain ⟨g', m, e1, e2, b', arr, e3, e4, e5, e6⟩ := ho.mem 1000 _ _ hm
  obtain rfl : q = g' := by omega
  rw [p1] at e2
  obtain rfl := Option.some.inj e2
  simp only [Option.some.injEq] at e3
  subst e3
  have hb : b < w.heap.size := (Array.getElem?_eq_some_iff.1 e5).1
  have c0 := cell_on e5 e6 h0
  have c1 := cell_on e5 e6 h1
  have hk : ∀ (k : IntKind) (n : Int) X, (AC.p (.k k n)).holds G.μ X (.int k n) := fun k n X => ⟨rfl, rfl⟩
  have ho1 := ho.setBox (i := i + 1) hm p1 (hk .i32 1)
  rw [memL_one] at ho1
  refine (raw b w (fun w2 => ∃ G', ObjG (memL [(1000, (q + 1, some (.box ty cs')))]) w2 G' ∧ (∀ b, G.S b → G'.S b) ∧ (∀ b, G'.S b → G.S b ∨ w.heap.size ≤ b ∨ ∃ o, b ∈ G.φ o) ∧ (∀ o b, b ∈ G'.φ o → w.heap.size ≤ b ∨ ∃ o', b ∈ G.φ o') ∧
      G.μ.le G'.μ ∧ FrF (fun b => ∃ o, b ∈ G.φ o) w w2) c0.1 c1.1 c0.2 c1.2 ?_ ?_).mono ?_
  · refine (hL _ G [.pointer (some ⟨b, 0, none⟩)] ho1 (.cons ⟨b, c, p1, rfl⟩ .nil)).mono ?_
    rintro e w' ⟨v, G', rfl, hr, k1, k2, k3, k4, k5, k6⟩
    obtain ⟨l, rfl, hl⟩ := hr
    obtain rfl := hl.nil_inv
    rw [World.size_setCell] at k3 k4
    refine ⟨rfl, G', k1, k2, k3, k4, k5, ⟨k6.os, k6.tape.trans .same, k6.output, by have := k6.size; rwa [World.size_setCell] at this, fun k hk hf => ?_⟩⟩
    refine (k6.block k (by rw [World.size_setCell]; exact hk) hf).trans (setCell_other fun e => hf ⟨1000, by rw [e, e4]; simp⟩)
  · rintro w2 ⟨G', k1, _, _, _, k5, _⟩
    have p3 := k5 1000 q _ p1
    obtain ⟨g', m, q1, q2, b2, arr2, q3, q4, q5, q6⟩ := k1.mem 1000 _ _ rfl
    obtain rfl : q = g' := by omega
    rw [p3] at q2
    obtain rfl := Option.some.inj q2
    simp only [Option.some.injEq] at q3
    subst q3
    have c0 := cell_on q5 q6 h0'
    have c1 := cell_on q5 q6 h1'
    exact ⟨c0.1, c1.1, c0.2, c1.2⟩
  · rintro e w' ⟨rfl, w2, ⟨G', k1, k2, k3, k4, k5, k6⟩, rfl⟩
    have p3 := k5 1000 q _ p1
    have hk : ∀ (k : IntKind) (n : Int) X, (AC.p (.k k n)).holds G'.μ X (.int k n) := fun k n X => ⟨rfl, rfl⟩
    have o2 := (k1.drew).setBox (i := i) (g := q) (o := 1000) rfl p3 (hk .u32 1)
    rw [memL_one] at o2
    have o3 := o2.setBox (i := i + 1) (g := q) (o := 1000) rfl p3 (hk .i32 0)
    rw [memL_one] at o3
    refine ⟨.tuple #[], G', rfl, ⟨[], rfl, .nil⟩, o3, k2, k3, k4, k5, ⟨k6.os, ⟨k6.tape.eq, Nat.le_succ_of_le k6.tape.le⟩, k6.output, by simpa using k6.size, fun k hk' hf => ?_⟩⟩
    have hkb : k ≠ b := fun e => hf ⟨1000, by rw [e, e4]; simp⟩
    rw [setCell_other hkb, setCell_other hkb]
    exact k6.block k hk' hf
/-- done already: nothing turns -/
theorem once_done {P : Program} {D L ty i q : Nat} {cs : List AC} {d : Int} (raw : ∀ (a : Addr) (fv : Value) (w : World), w.cell? a = some (.int .u32 d) → Calls P D #[.pointer (some a), fv] w fun e w' => e = .returned (.tuple #[]) ∧ w' = w) (h0 : cs[i]? = some (.p (.k .u32 d))) :
    OCall P D [.o (.ptr 1000 q i), .o (.bm L 1000 q 0)] (memL [(1000, (q + 1, some (.box ty cs)))]) (.tup []) (memL [(1000, (q + 1, some (.box ty cs)))]) := by
  intro w G vs ho ha
  obtain ⟨v0, vs1, rfl, ⟨b, c, p1, rfl⟩, ha1⟩ := ha.cons_inv
  obtain ⟨v1, vs2, rfl, ⟨b', c', p2, rfl⟩, ha2⟩ := ha1.cons_inv
  obtain rfl := ha2.nil_inv
  obtain ⟨g', m, e1, e2, b', arr, e3, e4, e5, e6⟩ := ho.mem 1000 _ _ rfl
  obtain rfl : q = g' := by omega
  rw [p1] at e2
  obtain rfl := Option.some.inj e2
  simp only [Option.some.injEq] at e3
  subst e3
  have c0 := cell_on e5 e6 h0
  refine (raw ⟨b, i, none⟩ _ w c0.1).mono ?_
  rintro e w' ⟨rfl, rfl⟩
  exact ⟨.tuple #[], G, rfl, ⟨[], rfl, .nil⟩, ho, fun _ h => h, fun _ h => .inl h, fun o _ h => .inr ⟨o, h⟩, Mu.le.refl _, ⟨rfl, .same, rfl, Nat.le_refl _, fun _ _ _ => rfl⟩⟩
/-- what is known of an object, said in other words -/
theorem RelG.mem' {C : Ctx} {σ : St} {a : Act} {w : World} {G : Gh} (h : RelG C σ a w G) {o n : Nat} {mo mo' : MO} (hm : σ.mem o = (n, some mo)) (hh : ∀ μ X m fp, mo.holds μ X m fp → (μ o).length = n → (∀ g, n = g + 1 → (μ o)[g]? = some m) → mo'.holds μ X m fp) : ∃ G', RelG C (σ.put o (n, some mo')) a w G' := by
  have hlen : (G.μ o).length = n := by have := h.gens o; rw [hm] at this; exact this
  obtain ⟨g', m, hg, hmm, hx⟩ := h.mem o _ _ hm
  have eμ : (fun x => if x = o then G.μ o else G.μ x) = G.μ := by funext x; split <;> simp_all
  refine ⟨_, h.upd (o := o) (n' := n) (mo' := some mo') (μo := G.μ o) (fp' := G.φ o) (w' := w) (fun g x hx => hx) hlen rfl .same rfl (Nat.le_refl _) (fun _ _ _ => rfl) (fun b hb => ⟨.inl hb, (h.own o b hb).2⟩) (fun mo1 hmo => ?_)⟩
  obtain rfl := Option.some.inj hmo
  refine ⟨g', m, hg, hmm, ?_⟩
  rw [eμ]
  exact hh _ _ _ _ hx hlen fun g hgn => by obtain rfl : g' = g := by omega
                                           exact hmm
theorem says_mem {C : Ctx} {σ : St} {o n : Nat} {mo mo' : MO} (hm : σ.mem o = (n, some mo)) (hh : ∀ μ X m fp, mo.holds μ X m fp → mo'.holds μ X m fp) : Says C σ (σ.put o (n, some mo')) := by
  rintro a w ⟨G, h⟩
  exact h.mem' hm fun μ X m fp k _ _ => hh μ X m fp k
/-- one of several -/
theorem aws_cases {C : Ctx} {σ : St} {k : List Code} {Q : Exit → St → Prop} {o n : Nat} {mo : MO} {ι : Type} (f : ι → MO) (hm : σ.mem o = (n, some mo)) (hh : ∀ μ X m fp, mo.holds μ X m fp → ∃ i, (f i).holds μ X m fp) {c : Code} (h : ∀ i, AWs C (c :: k) Q (σ.put o (n, some (f i)))) : AWs C (c :: k) Q σ := by
  intro a w ⟨G, hr⟩
  obtain ⟨g', m, hg, hmm, hx⟩ := hr.mem o _ _ hm
  obtain ⟨i, hi⟩ := hh _ _ _ _ hx
  have hlen : (G.μ o).length = n := by have := hr.gens o; rw [hm] at this; exact this
  have eμ : (fun x => if x = o then G.μ o else G.μ x) = G.μ := by funext x; split <;> simp_all
  refine h i a w ⟨_, hr.upd (o := o) (n' := n) (mo' := some (f i)) (μo := G.μ o) (fp' := G.φ o) (w' := w) (fun g x hx => hx) hlen rfl .same rfl (Nat.le_refl _) (fun _ _ _ => rfl) (fun b hb => ⟨.inl hb, (hr.own o b hb).2⟩) (fun mo1 hmo => ?_)⟩
  obtain rfl := Option.some.inj hmo
  refine ⟨g', m, hg, hmm, ?_⟩
  rw [eμ]
  exact hi
/-- variables' cells, of several kinds, as one object -/
def orA {ι : Type} (ty : TypeId) (cs : ι → List PVal) : AObj where
  holds X b fp := ∃ i arr, fp = [b] ∧ X.w.heap[b]? = some (.cells (List.toArray arr) ty (0, 0)) ∧ All2 (fun p x => p.holds X x) (cs i) arr
  mono := by
    rintro x y b fp hle hf ⟨i, arr, rfl, h1, h2⟩
    exact ⟨i, arr, rfl, (hf b (by simp)).trans h1, h2.mono fun p _ k => p.mono hle k⟩
theorem says_or {C : Ctx} {σ : St} {o n ty : Nat} {ι : Type} (cs : ι → List PVal) (i : ι) (hm : σ.mem o = (n, some (.box ty ((cs i).map .p)))) : Says C σ (σ.put o (n, some (.abs (orA ty cs)))) :=
  says_mem hm fun μ X m fp ⟨b, arr, h1, h2, h3, h4⟩ => ⟨b, h1, i, arr, h2, h3, all2_ac.1 h4⟩
theorem aws_or {C : Ctx} {σ : St} {k : List Code} {Q : Exit → St → Prop} {o n ty : Nat} {ι : Type} {cs : ι → List PVal} {c : Code} (hm : σ.mem o = (n, some (.abs (orA ty cs)))) (h : ∀ i, AWs C (c :: k) Q (σ.put o (n, some (.box ty ((cs i).map .p))))) : AWs C (c :: k) Q σ :=
  aws_cases (fun i => .box ty ((cs i).map .p)) hm (fun μ X m fp ⟨b, h1, i, arr, h2, h3, h4⟩ => ⟨i, b, arr, h1, h2, h3, all2_ac.2 h4⟩) h
end Go.Aw
namespace Go.Aw
open Go Go.RowKit
set_option linter.unusedVariables false
set_option linter.unusedSimpArgs false
/-- an object whose content hangs on no block that stays -/
def MV (mo : MO) : Prop := ∀ μ X Y m fp, X.w = Y.w → mo.holds μ X m fp → mo.holds μ Y m fp
theorem MV.buf {ty es : Nat} {α : Type} {l : List α} {f : α → List Value} : MV (.buf ty es (l.map fun x => (f x).map PVal.v)) := by
  rintro μ X Y m fp hw ⟨h1, h2, h3, h4⟩
  refine ⟨h1, h2, h3, ?_⟩
  rcases h4 with h4 | ⟨b, arr, k1, k2, k3, k4, k5⟩
  · exact .inl h4
  · refine .inr ⟨b, arr, k1, k2, by rw [← hw]; exact k3, k4, fun i row hr => ⟨(k5 i row hr).1, fun j p hp => ?_⟩⟩
    obtain ⟨c, hc, hh⟩ := (k5 i row hr).2 j p hp
    refine ⟨c, hc, ?_⟩
    rw [List.getElem?_map] at hr
    cases hx : l[i]? with
    | none => rw [hx] at hr; cases hr
    | some x =>
      rw [hx] at hr; simp at hr; subst hr
      rw [List.getElem?_map] at hp
      cases hy : (f x)[j]? with
      | none => rw [hy] at hp; cases hp
      | some y => rw [hy] at hp; simp at hp; subst hp; exact hh
theorem MO.holds.fp {μ : Mu} {X : Wd} {ty : TypeId} {cs : List AC} {m : Option Nat × Nat} {fp : List Nat} (h : (MO.box ty cs).holds μ X m fp) : ∃ b, m.1 = some b ∧ fp = [b] := by
  obtain ⟨b, arr, h1, h2, _⟩ := h; exact ⟨b, h1, h2⟩
theorem ocat_lend {P : Program} {f : FuncId} {c g n len es o3 g3 ty3 oR gR tyR fc : Nat} {mo mo1 : MO} {ps post : List PVal} {r : AV} (hc3 : c ≠ o3) (hcR : c ≠ oR) (h3R : o3 ≠ oR) (hr : ∀ μ X Y v, X.w = Y.w → r.holds μ X v → r.holds μ Y v) (hmv : MV mo1)
    (h : OCAt P f [.o (.osl c g es 0 len), .p (.fnv fc (.bx [.bx ps 0] 0 :: post))] [(c, (n, some mo))] [] r [(c, (n, some mo1))]) :
    OCAt P f [.o (.osl c g es 0 len), .o (.fn fc o3 g3 [] post)] [(c, (n, some mo)), (o3, (g3 + 1, some (.box ty3 [.ptr oR gR 0]))), (oR, (gR + 1, some (.box tyR (ps.map .p))))] [] r [(c, (n, some mo1)), (o3, (g3 + 1, some (.box ty3 [.ptr oR gR 0]))), (oR, (gR + 1, some (.box tyR (ps.map .p))))] := by
  intro w G mem vs ho hl hf ha
  have hmc := hl (c, (n, some mo)) (by simp)
  have hm3 := hl (o3, (g3 + 1, some (.box ty3 [.ptr oR gR 0]))) (by simp)
  have hmR := hl (oR, (gR + 1, some (.box tyR (ps.map .p)))) (by simp)
  simp only at hmc hm3 hmR
  obtain ⟨v0, vs1, rfl, hv0, ha1⟩ := ha.cons_inv
  obtain ⟨v1, vs2, rfl, hv1, ha2⟩ := ha1.cons_inv
  obtain rfl := ha2.nil_inv
  obtain ⟨q3, m3, e31, e32, b3, arr3, e33, e34, e35, e36⟩ := ho.mem o3 _ _ hm3
  obtain rfl : g3 = q3 := by omega
  obtain ⟨qR, mR, eR1, eR2, bR, arrR, eR3, eR4, eR5, eR6⟩ := ho.mem oR _ _ hmR
  obtain rfl : gR = qR := by omega
  obtain ⟨pv, pvs, rfl, hpv, hpvs⟩ := e36.cons_inv
  obtain rfl := hpvs.nil_inv
  obtain ⟨bR', cR, k1, rfl⟩ := hpv
  rw [eR2] at k1
  obtain ⟨mR1, mR2⟩ := mR
  simp only [Option.some.injEq, Prod.mk.injEq] at k1
  simp only at eR3
  obtain ⟨k1, _⟩ := k1
  rw [eR3] at k1
  obtain rfl := Option.some.inj k1
  obtain ⟨us0, us, b3', c3, k2, rfl, k3, k4⟩ := hv1
  obtain rfl := k3.nil_inv
  rw [e32] at k2
  obtain ⟨m31, m32⟩ := m3
  simp only [Option.some.injEq, Prod.mk.injEq] at k2
  simp only at e33
  rw [k2.1] at e33
  obtain rfl := Option.some.inj e33
  -- what stays for the while
  obtain ⟨S1, hS1⟩ : ∃ S1 : Nat → Prop, S1 = fun b => G.S b ∨ b = b3' ∨ b = bR := ⟨_, rfl⟩
  obtain ⟨φ1, hφ1⟩ : ∃ φ1 : Nat → List Nat, φ1 = fun x => if x = o3 ∨ x = oR then [] else G.φ x := ⟨_, rfl⟩
  obtain ⟨mem1, hmem1⟩ : ∃ mem1 : Nat → Nat × Option MO, mem1 = fun x => if x = o3 ∨ x = oR then ((mem x).1, none) else mem x := ⟨_, rfl⟩
  have hφs : ∀ {x b}, b ∈ φ1 x → b ∈ G.φ x ∧ x ≠ o3 ∧ x ≠ oR := fun {x b} hb => by
    rw [hφ1] at hb
    by_cases hx : x = o3 ∨ x = oR
    · simp [hx] at hb
    · simp only [hx, if_false] at hb
      exact ⟨hb, fun e => hx (.inl e), fun e => hx (.inr e)⟩
  have i3 : b3' ∈ G.φ o3 := by rw [e34]; simp
  have iR : bR ∈ G.φ oR := by rw [eR4]; simp
  have hle : Wd.le ⟨w, G.S⟩ ⟨w, S1⟩ := fun b hb => ⟨by rw [hS1]; exact .inl hb, rfl⟩
  have ho1 : ObjG mem1 w ⟨G.μ, S1, φ1⟩ := {
    gens := fun x => by
      rw [hmem1]
      by_cases hx : x = o3 ∨ x = oR
      · simp only [hx, if_true]; exact ho.gens x
      · simp only [hx, if_false]; exact ho.gens x
    mem := fun x k mx hx => by
      rw [hmem1] at hx
      by_cases hxx : x = o3 ∨ x = oR
      · simp [hxx] at hx
      · simp only [hxx, if_false] at hx
        obtain ⟨q, m, j1, j2, j3⟩ := ho.mem x k mx hx
        refine ⟨q, m, j1, j2, ?_⟩
        simp only [hφ1, hxx, if_false]
        exact j3.mono (Mu.le.refl _) hle fun _ _ => rfl
    apart := fun x y b hxy hx hy => ho.apart x y b hxy (hφs hx).1 (hφs hy).1
    stab := fun x b hb hs => by
      obtain ⟨j1, j2, j3⟩ := hφs hb
      rw [hS1] at hs
      rcases hs with hs | rfl | rfl
      · exact ho.stab x b j1 hs
      · exact ho.apart x o3 _ j2 j1 i3
      · exact ho.apart x oR _ j3 j1 iR
    own := fun x b hb => ho.own x b (hφs hb).1
    sbd := fun b hb => by
      rw [hS1] at hb
      rcases hb with hb | rfl | rfl
      · exact ho.sbd b hb
      · exact ho.own o3 _ i3
      · exact ho.own oR _ iR }
  have hbx : (PVal.bx ps 0).holds ⟨w, S1⟩ (.pointer (some ⟨bR, 0, none⟩)) := ⟨bR, arrR, tyR, rfl, by rw [hS1]; exact .inr (.inr rfl), eR5, (all2_ac.1 eR6).mono fun p _ hp => p.mono hle hp⟩
  have hargs : All2 (AV.holds G.μ ⟨w, S1⟩) [.o (.osl c g es 0 len), .p (.fnv fc (.bx [.bx ps 0] 0 :: post))] [v0, Value.func (.func fc) #[] ([] ++ Value.pointer (some ⟨b3', 0, none⟩) :: us).toArray] := by
    refine .cons (hv0.mono (Mu.le.refl _) hle) (.cons ?_ .nil)
    refine ⟨Value.pointer (some ⟨b3', 0, none⟩) :: us, rfl, .cons ⟨b3', [Value.pointer (some ⟨bR, 0, none⟩)], ty3, rfl, by rw [hS1]; exact .inr (.inl rfl), e35, .cons hbx .nil⟩ (k4.mono fun p _ hp => p.mono hle hp)⟩
  have n3 : ∀ {x}, inL [(c, (n, some mo1))] x → x = c := fun {x} hx => by
    simp only [inL, kIn, Bool.or_false] at hx
    exact Nat.eq_of_beq_eq_true hx
  have hcall := h w ⟨G.μ, S1, φ1⟩ mem1 _ ho1 (fun p hp => by
    simp only [List.mem_singleton] at hp; subst hp
    rw [hmem1]; simp only [hc3, hcR, or_self, if_false]; exact hmc) (fun p hp => by cases hp) hargs
  refine hcall.mono ?_
  rintro e w' ⟨v, G', rfl, jr, jo, j1, j2, j3, j4, j5⟩
  simp only at j1 j2 j3 j4 j5
  have hout : ∀ {x}, x ≠ c → kIn [(c, (n, some mo1))] x = false := fun {x} hx => by
    simp only [kIn, Bool.or_false]
    exact Bool.eq_false_iff.2 fun hb => hx (Nat.eq_of_beq_eq_true hb)
  have hfc : ∀ {b}, (∃ o, inL [(c, (n, some mo1))] o ∧ b ∈ φ1 o) → b ∈ G.φ c := fun {b} ⟨o, k1, k2⟩ => by
    obtain rfl := n3 k1; exact (hφs k2).1
  have hold : ∀ b, b < w.heap.size → b ∉ G.φ c → w'.heap[b]? = w.heap[b]? := fun b hb hn => j5.block b hb fun hx => hn (hfc hx)
  have hle' : Wd.le ⟨w, G.S⟩ ⟨w', fun b => G'.S b ∧ b ≠ b3' ∧ b ≠ bR⟩ := fun b hb => ⟨⟨j1 b (by rw [hS1]; exact .inl hb), fun e => ho.stab o3 b (by rw [e]; exact i3) hb, fun e => ho.stab oR b (by rw [e]; exact iR) hb⟩, hold b (ho.sbd b hb) fun hx => ho.stab c b hx hb⟩
  -- the footprints behind the call
  have hφc : ∀ {b}, b ∈ G'.φ c → b ∈ G.φ c ∨ w.heap.size ≤ b := fun {b} hb => by
    rcases j3 c b hb with k | k | k
    · exact .inl (hφs k).1
    · exact .inr k
    · exact .inl (hfc k)
  refine ⟨v, ⟨G'.μ, fun b => G'.S b ∧ b ≠ b3' ∧ b ≠ bR, fun x => if x = c then G'.φ c else G.φ x⟩, rfl, hr _ ⟨w', G'.S⟩ _ _ rfl jr, ?_, ?_, ?_, ?_, j4, ?_⟩
  · have hput : ∀ x, x ≠ c → putsM mem [(c, (n, some mo1)), (o3, (g3 + 1, some (.box ty3 [.ptr oR gR 0]))), (oR, (gR + 1, some (.box tyR (ps.map .p))))] x = mem x := fun x hx => by
      simp only [putsM, hx, if_false]
      by_cases h3 : x = o3
      · subst h3; simp [hm3]
      · by_cases hR : x = oR
        · subst hR; simp [h3, hmR]
        · simp [h3, hR]
    have hputc : putsM mem [(c, (n, some mo1)), (o3, (g3 + 1, some (.box ty3 [.ptr oR gR 0]))), (oR, (gR + 1, some (.box tyR (ps.map .p))))] c = (n, some mo1) := by simp [putsM]
    have hput1 : putsM mem1 [(c, (n, some mo1))] c = (n, some mo1) := by simp [putsM]
    exact {
      gens := fun x => by
        by_cases hx : x = c
        · subst hx; rw [hputc]; have := jo.gens x; rw [hput1] at this; exact this
        · rw [hput x hx]
          have := jo.gens x
          rw [putsM_out _ _ _ (hout hx), hmem1] at this
          by_cases hxx : x = o3 ∨ x = oR
          · simpa [hxx] using this
          · simpa [hxx] using this
      mem := fun x k mx hx => by
        by_cases hxc : x = c
        · subst hxc
          rw [hputc] at hx
          obtain ⟨q, m, k1, k2, k3⟩ := jo.mem x k mx (by rw [hput1]; exact hx)
          simp only [Prod.mk.injEq, Option.some.injEq] at hx
          obtain ⟨rfl, rfl⟩ := hx
          refine ⟨q, m, k1, k2, ?_⟩
          simp only [if_true]
          exact hmv _ ⟨w', G'.S⟩ _ _ _ rfl k3
        · rw [hput x hxc] at hx
          obtain ⟨q, m, k1, k2, k3⟩ := ho.mem x k mx hx
          refine ⟨q, m, k1, j4 _ _ _ k2, ?_⟩
          simp only [hxc, if_false]
          exact k3.mono j4 hle' fun b hb => hold b (ho.own x b hb) fun hc => ho.apart x c b hxc hb hc
      apart := fun x y b hxy hx hy => by
        have key : ∀ {y : Nat}, c ≠ y → b ∈ G'.φ c → b ∈ G.φ y → False := fun {y} hcy hb hq => by
          rcases hφc hb with k | k
          · exact ho.apart c y b hcy k hq
          · have := ho.own y b hq; omega
        by_cases hxc : x = c <;> by_cases hyc : y = c <;> simp only [hxc, hyc, if_true, if_false] at hx hy
        · exact hxy (hxc.trans hyc.symm)
        · exact key (y := y) (fun e => hyc e.symm) hx hy
        · exact key (y := x) (fun e => hxc e.symm) hy hx
        · exact ho.apart x y b hxy hx hy
      stab := fun x b hb hs => by
        by_cases hxc : x = c
        · simp only [hxc, if_true] at hb
          exact jo.stab c b hb hs.1
        · simp only [hxc, if_false] at hb
          rcases j2 b hs.1 with k | k | k
          · rw [hS1] at k
            rcases k with k | k | k
            · exact ho.stab x b hb k
            · exact hs.2.1 k
            · exact hs.2.2 k
          · have := ho.own x b hb; omega
          · exact ho.apart x c b hxc hb (hfc k)
      own := fun x b hb => by
        by_cases hxc : x = c
        · simp only [hxc, if_true] at hb; exact jo.own c b hb
        · simp only [hxc, if_false] at hb; exact Nat.lt_of_lt_of_le (ho.own x b hb) j5.size
      sbd := fun b hb => jo.sbd b hb.1 }
  · exact fun b hb => (hle' b hb).1
  · rintro b ⟨hb, n1, n2⟩
    rcases j2 b hb with k | k | k
    · rw [hS1] at k
      rcases k with k | k | k
      · exact .inl k
      · exact absurd k n1
      · exact absurd k n2
    · exact .inr (.inl k)
    · exact .inr (.inr ⟨c, by simp [inL, kIn], hfc k⟩)
  · intro x b hb
    by_cases hxc : x = c
    · simp only [hxc, if_true] at hb
      subst hxc
      rcases hφc hb with k | k
      · exact .inl k
      · exact .inr (.inl k)
    · simp only [hxc, if_false] at hb; exact .inl hb
  · exact ⟨j5.os, j5.tape, j5.output, j5.size, fun k hk hn => hold k hk fun hx => hn ⟨c, by simp [inL, kIn], hx⟩⟩
/-- of all that is known just this goes on: what follows reads its slots faster -/
theorem aws_sm {C : Ctx} {σ : St} {k : List Code} {c : Code} {Q : Exit → St → Prop} (e : List (Nat × AV)) (m : List (Nat × (Nat × Option MO))) (he : Knows σ.env e) (hm : Knows σ.mem m) (h : ∀ ν : Nat → Nat, AWs C (c :: k) Q ⟨ovl e fun _ => .un, ovl m fun o => (ν o, none)⟩) : AWs C (c :: k) Q σ := by
  intro a w ⟨G, hG⟩
  have ke : ∀ (e : List (Nat × AV)), Knows σ.env e → ∀ t, ovl e (fun _ => AV.un) t = σ.env t ∨ ovl e (fun _ => AV.un) t = .un := by
    intro e he
    induction he with
    | nil => exact fun t => .inr rfl
    | cons hv hl ih =>
      intro t
      simp only [ovl]
      split
      · rename_i ht; rw [ht]; exact .inl hv.symm
      · exact ih t
  have km : ∀ (m : List (Nat × (Nat × Option MO))), Knows σ.mem m → ∀ o, ovl m (fun o => ((σ.mem o).1, (none : Option MO))) o = σ.mem o ∨ ovl m (fun o => ((σ.mem o).1, (none : Option MO))) o = ((σ.mem o).1, none) := by
    intro m hm
    induction hm with
    | nil => exact fun t => .inr rfl
    | cons hv hl ih =>
      intro t
      simp only [ovl]
      split
      · rename_i ht; rw [ht]; exact .inl hv.symm
      · exact ih t
  refine h (fun o => (σ.mem o).1) a w ⟨G, ?_⟩
  exact {
    size := hG.size
    defers := hG.defers
    dnod := hG.dnod
    mle := hG.mle
    env := fun t => by
      show (ovl e (fun _ => AV.un) t).holds _ _ _
      rcases ke e he t with k | k <;> rw [k]
      · exact hG.env t
      · trivial
    gens := fun o => by
      show _ = (ovl m (fun o => ((σ.mem o).1, (none : Option MO))) o).1
      rcases km m hm o with k | k <;> rw [k]
      · exact hG.gens o
      · exact hG.gens o
    mem := fun o n mo ho => by
      have ho : ovl m (fun o => ((σ.mem o).1, (none : Option MO))) o = (n, some mo) := ho
      rcases km m hm o with k | k <;> rw [k] at ho
      · exact hG.mem o n mo ho
      · simp at ho
    apart := hG.apart
    stab := hG.stab
    own := hG.own
    sbd := hG.sbd
    ssub := hG.ssub
    fr := hG.fr }
end Go.Aw
namespace Go.Aw
open Go Go.RowKit
set_option linter.unusedVariables false
set_option linter.unusedSimpArgs false
section ops
variable {C : Ctx} {o : Oper} {σ : St}
/-- a string's length -/
theorem lop_len_sb {T : TypeId} {x : Operand} {sz by_ : Nat} {b : List Nat} (ho : o.op = .call ⟨.builtin .len, #[x], #[T]⟩) (hT : TI C.P T .string sz by_) (hx : σ.look x = .p (.v (.string (strOf b)))) (hd : dOk C o.dst = true) :
    LOp C o σ ⟨.p (.i b.length), []⟩ (fun _ => false) := by
  have := lop_len_str (hT := hT) ho hx hd
  rwa [strOf_size] at this
/-- a string's byte -/
theorem lop_ix_sb {T : TypeId} {x ix : Operand} {sz by_ : Nat} {b : List Nat} {k : IntKind} {i : Int} (ho : o.op = .index T x ix) (hT : TI C.P T .string sz by_) (hx : σ.look x = .p (.v (.string (strOf b)))) (hb : okB b) (hi : σ.look ix = .p (.v (.int k i))) (h0 : 0 ≤ i) (h1 : i < b.length) (hd : dOk C o.dst = true) :
    LOp C o σ ⟨.p (.k .u8 (b.getD i.toNat default : Nat)), []⟩ (fun _ => false) :=
  lop_val hd fun τ a w G hl' hm' h => by
    have e1 := val_of h ((hl' x (by simp [ho, Op.operands])).trans hx)
    have e2 := val_of h ((hl' ix (by simp [ho, Op.operands])).trans hi)
    obtain ⟨d, hdd, hkk⟩ := hT.undd
    have : d = .string := by cases d <;> simp [TK.of] at hkk; rfl
    subst this
    have hlt : i.toNat < b.length := by omega
    have hbd : 0 ≤ i ∧ i < ((strOf b).size : Int) := by rw [strOf_size]; exact ⟨h0, h1⟩
    have hlt2 : i.toNat < (strOf b).size := by rw [strOf_size]; exact hlt
    have hg : (strOf b)[i.toNat] = UInt8.ofNat b[i.toNat] := by
      show ((b.map UInt8.ofNat).toArray)[i.toNat]'(by simpa using hlt) = _
      simp
    have hby : (((strOf b)[i.toNat]).toNat : Int) = ((b.getD i.toNat default : Nat) : Int) := by
      rw [hg, List.getD_eq_getElem?_getD, List.getElem?_eq_getElem hlt]
      have := hb b[i.toNat] (List.getElem_mem _)
      simp; omega
    refine ⟨.int .u8 (((strOf b)[i.toNat]).toNat : Int), ?_, by rw [hby], rfl⟩
    simp [execOp, ho, e1, e2, Instr.index, asIntOf, run_underlying hdd, h0, hlt2]
end ops
end Go.Aw
namespace Go.Proofs.YthhlcdacmlnjdaaGreat.Rg
open Go Go.RowKit Go.Aw Go.Aw.Cart Go.Aw.Ord Go.Sort Go.Proofs.YthhlcdacmlnjdaaGreat.Ca
set_option linter.unusedVariables false
set_option linter.unusedSimpArgs false
set_option maxRecDepth 8000
set_option maxHeartbeats 4000000
open W2
/-- a ring of which nothing was asked yet -/
abbrev ring0 (n v r : Int) : List AC := [.p (.i n), .p (.i v), .p (.i r), .p (.k .u32 0), .p (.k .i32 0), .p (.k .u32 0), .p (.v (.slice none 0 0))]
theorem newBad_w (n v r : Int) (h : rRight n v r = false) : PCall Tryz.prog 7 [.a [.p (.i n), .p (.i v), .p (.i r)]] (.tup [.one (.p (.v (.pointer none))), .one (.p (.i 1))]) := by
  refine pcall_of Tryz.func7 rfl (fun w0 F S0 M0 => ?_)
  have d1 : (!rRight n v r) = true := by rw [h]; rfl
  as_aux_lemma =>
    repeat' (first
        | refine rnC ?_
        | refine rnSB ?_
        | refine rnG ?_
        | refine rnU ?_
        | ((fail_if_success (refine rnKn ?_)); refine rnP ?_ ?_ <;> (intro hq; try (have hq' := hq; simp only [hqs] at hq')))
        | refine rkC ?_
        | refine rkSB ?_
        | refine rkF ?_
        | refine rkU ?_
        | ((fail_if_success (refine rkKn ?_)); refine rkP ?_ ?_ <;> (intro hq; try (have hq' := hq; simp only [hqs] at hq')))
        | refine stp ?_
        | refine aws_draws [] mixed (by kernel_rfl) ?_
        | refine ifT ?_
        | refine ifF ?_
        | (refine ifQ ?_ ?_ <;> (try (intro hn)))
        | (refine ifB ?_ ?_ <;> (intro hq; try (have hq' := hq; simp only [hqs] at hq'))))
    exact rt2 rfl rfl finS_p rfl finS_p rfl
theorem new_o (n v r : Int) (h : rRight n v r = true) : OCall Tryz.prog 7 [.a [.p (.i n), .p (.i v), .p (.i r)]] (fun _ => (0, none)) (.tup [.one (.ptr 9 0 0), .one (.p (.i 0))]) (memL [(9, (1, some (.box 71 (ring0 n v r))))]) := by
  refine ocall_ofF 9 Tryz.func7 rfl (fun w0 F S0 M0 => ?_)
  have d1 : (!rRight n v r) = false := by rw [h]; rfl
  as_aux_lemma =>
    repeat' (first
        | refine rnC ?_
        | refine rnSB ?_
        | refine rnG ?_
        | refine rnU ?_
        | ((fail_if_success (refine rnKn ?_)); refine rnP ?_ ?_ <;> (intro hq; try (have hq' := hq; simp only [hqs] at hq')))
        | refine rkC ?_
        | refine rkSB ?_
        | refine rkF ?_
        | refine rkU ?_
        | ((fail_if_success (refine rkKn ?_)); refine rkP ?_ ?_ <;> (intro hq; try (have hq' := hq; simp only [hqs] at hq')))
        | refine stp ?_
        | refine aws_draws [] mixed (by kernel_rfl) ?_
        | refine ifT ?_
        | refine ifF ?_
        | (refine ifQ ?_ ?_ <;> (try (intro hn)))
        | (refine ifB ?_ ?_ <;> (intro hq; try (have hq' := hq; simp only [hqs] at hq'))))
    exact RetO.mk (ot2 rfl rfl (.one (.kptr rfl)) rfl finS_p rfl) ⟨.box finL_p, trivial⟩
instance new_i {c k : Nat} {n v r : Int} : OC Tryz.prog 7 [.a [.p (.i n), .p (.i v), .p (.i r)]] [] [(c, k)] (rRight n v r = true) (.tup [.one (.ptr c k 0), .one (.p (.i 0))]) [(c, (k + 1, some (.box 71 (ring0 n v r))))] := ⟨fun h => (new_o n v r h).fresh1 c k⟩
end Go.Proofs.YthhlcdacmlnjdaaGreat.Rg
namespace Go.Proofs.YthhlcdacmlnjdaaGreat.Rg
open Go Go.RowKit Go.Aw Go.Aw.Sha Go.Aw.Cart Go.Aw.Ord Go.Sort Go.Proofs.YthhlcdacmlnjdaaGreat.Ca Go.Proofs.YthhlcdacmlnjdaaGreat.Sh
set_option linter.unusedVariables false
set_option linter.unusedSimpArgs false
set_option maxRecDepth 8000
set_option maxHeartbeats 4000000
attribute [local irreducible] sum
/-- the first bytes as a number, the greatest ahead -/
def pv (S : List Nat) : Nat → Nat
  | 0 => 0
  | j + 1 => pv S j * 256 + S.getD j default
def pointF (b : List Nat) : Nat := pv (sum b) 8
theorem sum_okB (b : List Nat) : okB (sum b) := by
  unfold sum digest
  intro x hx
  obtain ⟨i, _, rfl⟩ := List.mem_map.1 hx
  exact Nat.mod_lt _ (by decide)
theorem getD_ok {S : List Nat} (h : okB S) (j : Nat) : S.getD j default < 256 := by
  rw [List.getD_eq_getElem?_getD]
  cases hj : S[j]? with
  | none => exact (by decide : 0 < 256)
  | some x => exact h x (List.mem_of_getElem? hj)
theorem pv_lt {S : List Nat} (h : okB S) : ∀ j, pv S j < 256 ^ j
  | 0 => Nat.one_pos
  | j + 1 => by
    have := pv_lt h j
    have := getD_ok h j
    rw [pv, Nat.pow_succ]; omega
theorem pv_fit {S : List Nat} (h : okB S) {j : Nat} (hj : j ≤ 8) : pv S j < 18446744073709551616 :=
  Nat.lt_of_lt_of_le (pv_lt h j) (show 256 ^ j ≤ 256 ^ 8 from Nat.pow_le_pow_right (by decide) hj)
/-- one byte more, as the machine does it -/
theorem byte_in {a c M : Nat} (ha : a * 256 + c < M) (hc : c < 256) : ((a * 256) % M % M ||| c % M % M) = a * 256 + c := by
  have h1 : c < M := by omega
  have h2 : a * 256 < M := Nat.lt_of_le_of_lt (Nat.le_add_right _ c) ha
  rw [Nat.mod_eq_of_lt h1, Nat.mod_eq_of_lt h1, Nat.mod_eq_of_lt h2, Nat.mod_eq_of_lt h2]
  have := Nat.shiftLeft_add_eq_or_of_lt (i := 8) (show c < 2 ^ 8 from hc) a
  rw [Nat.shiftLeft_eq] at this
  exact this.symm
/-- an own array's first places as a slice -/
theorem lop_sl_arh {C : Ctx} {o : Oper} {σ : St} {T e : TypeId} {x y : Operand} {n sz by_ : Nat} {ke : TK} {sze be : Nat} {ob g off : Nat} {k : IntKind} {m : Int} (ho : o.op = .slice T x none (some y) none) (hT : TI C.P T (.array n e) sz by_) (he : TI C.P e ke sze be) (hx : σ.look x = .o (.ptr ob g off)) (hy : σ.look y = .p (.v (.int k m))) (h0 : 0 ≤ m) (hm : m ≤ n) (hd : dOk C o.dst = true) :
    LOp C o σ ⟨.o (.asl ob g off m.toNat n), []⟩ (fun _ => false) :=
  lop_val hd fun τ a w G hl hm' h => by
    obtain ⟨b, c, h1, h2⟩ := look_of h ((hl x (by simp [ho, Op.operands])).trans hx)
    have e2 := val_of h ((hl y (by simp [ho, Op.operands])).trans hy)
    obtain ⟨d, hdd, hk⟩ := hT.undd
    have : d = .array n e := by cases d <;> simp [TK.of] at hk; rw [hk.1, hk.2]
    subst this
    refine ⟨.slice (some ⟨b, off, none⟩) m.toNat n, ?_, b, c, h1, rfl⟩
    simp [execOp, ho, h2, e2, Instr.sliceAt, Instr.sureAddr, run_underlying hdd, Instr.sliceBounds, run_sb (y := n) h0 hm, he.run_sizeOf, Addr.add]
namespace P6
theorem lopC {C : Ctx} {o : Oper} {σ : St} {e : Eff} {ro : Nat → Bool} (h : LOp C o σ e ro := by
    first
      | exact lop_wadd' rfl rfl rfl (by with_reducible (first | rfl | exact lit_nat _ | exact ofn_nat _)) (by with_reducible (first | rfl | exact lit_nat _ | exact ofn_nat _)) rfl rfl
            | exact lop_wmul' rfl rfl rfl (by with_reducible (first | rfl | exact lit_nat _ | exact ofn_nat _)) (by with_reducible (first | rfl | exact lit_nat _ | exact ofn_nat _)) rfl rfl
            | exact lop_wsub' rfl rfl rfl (by with_reducible (first | rfl | exact lit_nat _ | exact ofn_nat _)) (by with_reducible (first | rfl | exact lit_nat _ | exact ofn_nat _)) rfl rfl
            | exact lop_wquo' rfl rfl rfl (by with_reducible (first | rfl | exact lit_nat _ | exact ofn_nat _)) (by with_reducible (first | rfl | exact lit_nat _ | exact ofn_nat _)) (by decide) rfl rfl
            | exact lop_wrem' rfl rfl rfl (by with_reducible (first | rfl | exact lit_nat _ | exact ofn_nat _)) (by with_reducible (first | rfl | exact lit_nat _ | exact ofn_nat _)) (by decide) rfl
            | exact lop_wand' rfl rfl rfl (by with_reducible (first | rfl | exact lit_nat _ | exact ofn_nat _)) (by with_reducible (first | rfl | exact lit_nat _ | exact ofn_nat _)) rfl rfl
            | exact lop_wor' rfl rfl rfl (by with_reducible (first | rfl | exact lit_nat _ | exact ofn_nat _)) (by with_reducible (first | rfl | exact lit_nat _ | exact ofn_nat _)) rfl rfl
            | exact lop_wxor' rfl rfl rfl (by with_reducible (first | rfl | exact lit_nat _ | exact ofn_nat _)) (by with_reducible (first | rfl | exact lit_nat _ | exact ofn_nat _)) rfl rfl
            | exact lop_wnot' rfl rfl (by with_reducible (first | rfl | exact lit_nat _ | exact ofn_nat _)) rfl rfl
            | exact lop_wshr' rfl rfl (by with_reducible (first | rfl | exact lit_nat _ | exact ofn_nat _)) rfl (by first | decide | omega) (by first | decide | (simp only [IntKind.bits]; omega)) rfl
            | exact lop_wshl' rfl rfl (by with_reducible (first | rfl | exact lit_nat _ | exact ofn_nat _)) rfl (by first | decide | omega) (by first | decide | (simp only [IntKind.bits]; omega)) rfl rfl
            | (apply lop_wconv'; (focus rfl); (focus exact inferInstance); (focus exact inferInstance); (focus rfl); (focus exact (by with_reducible (first | rfl | exact lit_nat _ | exact ofn_nat _))); (focus rfl); (focus rfl))
      | (apply lop_sl_arh; (focus rfl); (focus exact inferInstance); (focus exact inferInstance); (focus rfl); (focus rfl); (focus decide); (focus decide); (focus rfl))
      | exact lop_len_asl rfl rfl rfl
      | exact lopQ
      | fail) : LOp C o σ e ro := h
section steps
variable {C : Ctx} {ops : Array Oper} {o : Oper} {rest : List Oper} {K : St → Prop} {σ : St} {e : Eff} {ro : Nat → Bool} {W : List (Nat × Nat)} {i : Nat}
theorem rnC {d : Nat} (hk : RunN C ops rest K (e.app (some d) σ)) (hg : Guard ops σ o true := by first | exact gd_n rfl rfl | exact gd_t rfl rfl rfl rfl | exact gd_t rfl rfl rfl (by assumption)) (hd : o.dst = some d := by rfl) (h : LOp C o σ e ro := by exact lopC) : RunN C ops (o :: rest) K σ := rn_any hg hd h hk
theorem rkC {d : Nat} (hk : RunK C ops W (i + 1) rest K (e.app (some d) σ)) (hg : Guard ops σ o true := by first | exact gd_n rfl rfl | exact gd_t rfl rfl rfl rfl | exact gd_t rfl rfl rfl (by assumption)) (hd' : o.dst = some d := by rfl) (hd : dOk C o.dst = true := by rfl) (h : LOp C o σ e ro := by exact lopC)
    (hro : ∀ x, ro x = true → okObj ops W i x = true := by first | exact fun _ => ro_none | exact ro_one rfl | exact ro_one (by kernel_rfl) | exact ro_kIn (by decide)) (hob : ∀ p ∈ e.obj, (i, p.1) ∈ W := by first | exact ob_none | exact ob_one (by decide) | decide) : RunK C ops W i (o :: rest) K σ := rk_wr hg hd' hd h hro hob hk
end steps
end P6
open P6
theorem shaPoint_w (b : List Nat) (ex : Bool) (h : b.length ≤ 500000000) : PCall Tryz.prog 64 [bytesN b ex] (.p (.k .u64 (pointF b : Int))) := by
  refine pcall_of Tryz.func64 rfl (fun w0 F S0 M0 => ?_)
  obtain ⟨S, hS⟩ : ∃ S, S = sum b := ⟨_, rfl⟩
  have hSl : S.length = 32 := by rw [hS]; exact sum_len b
  have hSo : okB S := by rw [hS]; exact sum_okB b
  haveI : PC Tryz.prog 77 [.p (.sl 1 [[bytesP b ex]] true)] True (.a (S.map bc)) := ⟨fun _ => by rw [hS]; exact sum1_c b ex true h⟩
  rw [show pointF b = pv S 8 by rw [hS]; rfl]
  clear hS
  repeat' (first
      | refine rnC ?_
      | refine rnSB ?_
      | refine rnG ?_
      | refine rnU ?_
      | ((fail_if_success (refine rnKn ?_)); refine rnP ?_ ?_ <;> (intro hq; try (have hq' := hq; simp only [hqs] at hq')))
      | refine rkC ?_
      | refine rkSB ?_
      | refine rkF ?_
      | refine rkU ?_
      | ((fail_if_success (refine rkKn ?_)); refine rkP ?_ ?_ <;> (intro hq; try (have hq' := hq; simp only [hqs] at hq')))
      | refine stp ?_
      | refine ifT ?_
      | refine ifF ?_
      | (refine ifQ ?_ ?_ <;> (try (intro hn)))
      | (refine ifB ?_ ?_ <;> (intro hq; try (have hq' := hq; simp only [hqs] at hq'))))
  refine aws_loopS [3, 6, 12, 13, 14, 15, 16, 17, 18, 19, 20, 21] [] (fun (i : Nat) => [(12, .p (.i i)), (3, .p (.k .u64 (pv S i : Int)))]) (fun _ => []) (fun i => i ≤ 8) (fun i => 8 - i) 0 (Nat.zero_le _) (by exact knA) (by exact knA) ?_
  rintro i β γ hi
  by_cases hil : i < 8
  · have d1 : decide ((i : Int) < 8) = true := decide_eq_true (by omega)
    as_aux_lemma =>
      repeat' (first
          | refine rnC ?_
          | refine rnSB ?_
          | refine rnG ?_
          | refine rnU ?_
          | ((fail_if_success (refine rnKn ?_)); refine rnP ?_ ?_ <;> (intro hq; try (have hq' := hq; simp only [hqs] at hq')))
          | refine rkC ?_
          | refine rkSB ?_
          | refine rkF ?_
          | refine rkU ?_
          | ((fail_if_success (refine rkKn ?_)); refine rkP ?_ ?_ <;> (intro hq; try (have hq' := hq; simp only [hqs] at hq')))
          | refine stp ?_
          | refine ifT ?_
          | refine ifF ?_
          | (refine ifQ ?_ ?_ <;> (try (intro hn)))
          | (refine ifB ?_ ?_ <;> (intro hq; try (have hq' := hq; simp only [hqs] at hq'))))
      refine ⟨i + 1, _, by omega, (by show i + 1 ≤ 8; omega), .refl, ?_⟩
      have e : pv S (i + 1) = (pv S i * 2 ^ (8 : Int).toNat) % md .u64 % md .u64 ||| S.getD (i : Int).toNat default % md .u64 % md .u64 := by
        rw [pv, Int.toNat_natCast]
        exact (byte_in (M := md .u64) (by have := pv_fit hSo (show i + 1 ≤ 8 by omega); rwa [pv] at this) (getD_ok hSo i)).symm
      try dsimp only
      rw [e]
      exact frA
  · have d1 : decide ((i : Int) < 8) = false := decide_eq_false (by omega)
    obtain rfl : i = 8 := by omega
    as_aux_lemma =>
      repeat' (first
          | refine rnC ?_
          | refine rnSB ?_
          | refine rnG ?_
          | refine rnU ?_
          | ((fail_if_success (refine rnKn ?_)); refine rnP ?_ ?_ <;> (intro hq; try (have hq' := hq; simp only [hqs] at hq')))
          | refine rkC ?_
          | refine rkSB ?_
          | refine rkF ?_
          | refine rkU ?_
          | ((fail_if_success (refine rkKn ?_)); refine rkP ?_ ?_ <;> (intro hq; try (have hq' := hq; simp only [hqs] at hq')))
          | refine stp ?_
          | refine ifT ?_
          | refine ifF ?_
          | (refine ifQ ?_ ?_ <;> (try (intro hn)))
          | (refine ifB ?_ ?_ <;> (intro hq; try (have hq' := hq; simp only [hqs] at hq'))))
      exact rt1 rfl rfl finS_p rfl
theorem refPoint_w (b : List Nat) (ex : Bool) (h : b.length ≤ 500000000) (hb : okB b) : PCall Tryz.prog 58 [bytesN b ex] (.p (.k .u64 (pointF b : Int))) := by
  refine pcall_of Tryz.func58 rfl (fun w0 F S0 M0 => ?_)
  obtain ⟨S, hS⟩ : ∃ S, S = sum b := ⟨_, rfl⟩
  have hSl : S.length = 32 := by rw [hS]; exact sum_len b
  have hSo : okB S := by rw [hS]; exact sum_okB b
  haveI : PC Tryz.prog 53 [bytesN b ex] True (.a (S.map bc)) := ⟨fun _ => by rw [hS]; exact rsum_c b ex h hb⟩
  rw [show pointF b = pv S 8 by rw [hS]; rfl]
  clear hS
  repeat' (first
      | refine rnC ?_
      | refine rnSB ?_
      | refine rnG ?_
      | refine rnU ?_
      | ((fail_if_success (refine rnKn ?_)); refine rnP ?_ ?_ <;> (intro hq; try (have hq' := hq; simp only [hqs] at hq')))
      | refine rkC ?_
      | refine rkSB ?_
      | refine rkF ?_
      | refine rkU ?_
      | ((fail_if_success (refine rkKn ?_)); refine rkP ?_ ?_ <;> (intro hq; try (have hq' := hq; simp only [hqs] at hq')))
      | refine stp ?_
      | refine ifT ?_
      | refine ifF ?_
      | (refine ifQ ?_ ?_ <;> (try (intro hn)))
      | (refine ifB ?_ ?_ <;> (intro hq; try (have hq' := hq; simp only [hqs] at hq'))))
  refine aws_loopS [4, 5, 8, 9, 10, 11, 12, 13, 14, 15, 16, 17, 18] [] (fun (i : Nat) => [(5, .p (.i i)), (4, .p (.k .u64 (pv S i : Int)))]) (fun _ => []) (fun i => i ≤ 8) (fun i => 8 - i) 0 (Nat.zero_le _) (by exact knA) (by exact knA) ?_
  rintro i β γ hi
  by_cases hil : i < 8
  · have d1 : decide ((i : Int) < 8) = true := decide_eq_true (by omega)
    as_aux_lemma =>
      repeat' (first
          | refine rnC ?_
          | refine rnSB ?_
          | refine rnG ?_
          | refine rnU ?_
          | ((fail_if_success (refine rnKn ?_)); refine rnP ?_ ?_ <;> (intro hq; try (have hq' := hq; simp only [hqs] at hq')))
          | refine rkC ?_
          | refine rkSB ?_
          | refine rkF ?_
          | refine rkU ?_
          | ((fail_if_success (refine rkKn ?_)); refine rkP ?_ ?_ <;> (intro hq; try (have hq' := hq; simp only [hqs] at hq')))
          | refine stp ?_
          | refine ifT ?_
          | refine ifF ?_
          | (refine ifQ ?_ ?_ <;> (try (intro hn)))
          | (refine ifB ?_ ?_ <;> (intro hq; try (have hq' := hq; simp only [hqs] at hq'))))
      refine ⟨i + 1, _, by omega, (by show i + 1 ≤ 8; omega), .refl, ?_⟩
      have e : pv S (i + 1) = (256 * pv S i % md .u64 + S.getD (i : Int).toNat default % md .u64) % md .u64 := by
        rw [pv, Int.toNat_natCast]
        have h1 := pv_fit hSo (show i + 1 ≤ 8 by omega)
        rw [pv] at h1
        have h2 := getD_ok hSo i
        rw [show md .u64 = 18446744073709551616 from rfl]
        omega
      try dsimp only
      rw [e]
      exact frA
  · have d1 : decide ((i : Int) < 8) = false := decide_eq_false (by omega)
    obtain rfl : i = 8 := by omega
    as_aux_lemma =>
      repeat' (first
          | refine rnC ?_
          | refine rnSB ?_
          | refine rnG ?_
          | refine rnU ?_
          | ((fail_if_success (refine rnKn ?_)); refine rnP ?_ ?_ <;> (intro hq; try (have hq' := hq; simp only [hqs] at hq')))
          | refine rkC ?_
          | refine rkSB ?_
          | refine rkF ?_
          | refine rkU ?_
          | ((fail_if_success (refine rkKn ?_)); refine rkP ?_ ?_ <;> (intro hq; try (have hq' := hq; simp only [hqs] at hq')))
          | refine stp ?_
          | refine ifT ?_
          | refine ifF ?_
          | (refine ifQ ?_ ?_ <;> (try (intro hn)))
          | (refine ifB ?_ ?_ <;> (intro hq; try (have hq' := hq; simp only [hqs] at hq'))))
      exact rt1 rfl rfl finS_p rfl
/-- a node's point -/
def ptF (node i : Int) : Int := (pointF [110, (48 + node).toNat, (97 + i).toNat] : Int)
theorem shaPoint3_w (x y z : Int) (ex : Bool) (hx : 0 ≤ x) (hy : 0 ≤ y) (hz : 0 ≤ z) : PCall Tryz.prog 64 [.p (.sl 1 (([x, y, z] : List Int).map fun n => [PVal.v (.int .u8 n)]) ex)] (.p (.k .u64 (pointF [x.toNat, y.toNat, z.toNat] : Int))) := by
  have := shaPoint_w [x.toNat, y.toNat, z.toNat] ex (by simp)
  have e : (([x, y, z] : List Int).map fun n => [PVal.v (.int .u8 n)]) = [x.toNat, y.toNat, z.toNat].map br := by
    obtain ⟨x, rfl⟩ : ∃ q : Nat, x = q := ⟨x.toNat, by omega⟩
    obtain ⟨y, rfl⟩ : ∃ q : Nat, y = q := ⟨y.toNat, by omega⟩
    obtain ⟨z, rfl⟩ : ∃ q : Nat, z = q := ⟨z.toNat, by omega⟩
    rfl
  rw [e]; exact this
theorem refPoint3_w (x y z : Int) (ex : Bool) (hx : 0 ≤ x ∧ x < 256) (hy : 0 ≤ y ∧ y < 256) (hz : 0 ≤ z ∧ z < 256) : PCall Tryz.prog 58 [.p (.sl 1 (([x, y, z] : List Int).map fun n => [PVal.v (.int .u8 n)]) ex)] (.p (.k .u64 (pointF [x.toNat, y.toNat, z.toNat] : Int))) := by
  have := refPoint_w [x.toNat, y.toNat, z.toNat] ex (by simp) (.cons (by omega) (.cons (by omega) (.cons (by omega) .nil)))
  have e : (([x, y, z] : List Int).map fun n => [PVal.v (.int .u8 n)]) = [x.toNat, y.toNat, z.toNat].map br := by
    obtain ⟨x, rfl⟩ : ∃ q : Nat, x = q := ⟨x.toNat, by omega⟩
    obtain ⟨y, rfl⟩ : ∃ q : Nat, y = q := ⟨y.toNat, by omega⟩
    obtain ⟨z, rfl⟩ : ∃ q : Nat, z = q := ⟨z.toNat, by omega⟩
    rfl
  rw [e]; exact this
instance shaPoint_i {node i : Int} {ex : Bool} : PC Tryz.prog 64 [.p (.sl 1 (([110, 48 + node, 97 + i] : List Int).map fun n => [PVal.v (.int .u8 n)]) ex)] (0 ≤ node ∧ 0 ≤ i) (.p (.k .u64 (ptF node i))) := ⟨fun h => shaPoint3_w 110 (48 + node) (97 + i) ex (by decide) (by omega) (by omega)⟩
theorem refPt_w (node i : Int) (hn : 0 ≤ node ∧ node ≤ 9) (hi : 0 ≤ i ∧ i ≤ 20) : PCall Tryz.prog 50 [.p (.i node), .p (.i i)] (.p (.k .u64 (ptF node i))) := by
  refine pcall_of Tryz.func50 rfl (fun w0 F S0 M0 => ?_)
  haveI : PC Tryz.prog 58 [.p (.sl 1 (([110, 48 + node, 97 + i] : List Int).map fun n => [PVal.v (.int .u8 n)]) true)] True (.p (.k .u64 (ptF node i))) := ⟨fun _ => refPoint3_w 110 (48 + node) (97 + i) true (by decide) (by omega) (by omega)⟩
  as_aux_lemma =>
    repeat' (first
        | refine rnC ?_
        | refine rnSQ ?_
        | refine rnG ?_
        | refine rnU ?_
        | ((fail_if_success (refine rnKn ?_)); refine rnP ?_ ?_ <;> (intro hq; try (have hq' := hq; simp only [hqs] at hq')))
        | refine rkC ?_
        | refine rkSQ ?_
        | refine rkF ?_
        | refine rkU ?_
        | ((fail_if_success (refine rkKn ?_)); refine rkP ?_ ?_ <;> (intro hq; try (have hq' := hq; simp only [hqs] at hq')))
        | refine stp ?_
        | refine ifT ?_
        | refine ifF ?_
        | (refine ifQ ?_ ?_ <;> (try (intro hn)))
        | (refine ifB ?_ ?_ <;> (intro hq; try (have hq' := hq; simp only [hqs] at hq'))))
    exact rt1 rfl rfl finS_p rfl
instance refPt_i {node i : Int} : PC Tryz.prog 50 [.p (.i node), .p (.i i)] ((0 ≤ node ∧ node ≤ 9) ∧ (0 ≤ i ∧ i ≤ 20)) (.p (.k .u64 (ptF node i))) := ⟨fun h => refPt_w node i h.1 h.2⟩
end Go.Proofs.YthhlcdacmlnjdaaGreat.Rg
namespace Go.Proofs.YthhlcdacmlnjdaaGreat.Rg
open Go Go.RowKit Go.Aw Go.Aw.Cart Go.Aw.Ord Go.Sort Go.Proofs.YthhlcdacmlnjdaaGreat.Ca
set_option linter.unusedVariables false
set_option linter.unusedSimpArgs false
set_option maxRecDepth 8000
set_option maxHeartbeats 4000000
abbrev pL (d : Dot) : List AC := [.p (.k .u64 d.1), .p (.i d.2)]
abbrev pR (d : Dot) : List PVal := [.k .u64 d.1, .i d.2]
abbrev pV (d : Dot) : AV := .a (pL d)
theorem ordP_w (a b : Dot) : PCall Tryz.prog 66 [pV a, pV b] (.p (.i (ordD a b))) := by
  refine pcall_of Tryz.func66 rfl (fun w0 F S0 M0 => ?_)
  as_aux_lemma =>
    repeat' (first
        | refine rnB ?_
        | refine rnSB ?_
        | refine rnG ?_
        | refine rnU ?_
        | ((fail_if_success (refine rnKn ?_)); refine rnP ?_ ?_ <;> (intro hq; try (have hq' := hq; simp only [hqs] at hq')))
        | refine rkB ?_
        | refine rkSB ?_
        | refine rkF ?_
        | refine rkU ?_
        | ((fail_if_success (refine rkKn ?_)); refine rkP ?_ ?_ <;> (intro hq; try (have hq' := hq; simp only [hqs] at hq')))
        | refine stp ?_
        | refine aws_draws [] mixed (by kernel_rfl) ?_
        | refine ifT ?_
        | refine ifF ?_
        | (refine ifQ ?_ ?_ <;> (try (intro hn)))
        | (refine ifB ?_ ?_ <;> (intro hq; try (have hq' := hq; simp only [hqs] at hq'))))
    exact rt1 rfl rfl finS_p rfl
def encP (d : Dot) : List Value := [.int .u64 d.1, .int .i64 d.2]
theorem ltP_of {x y : Dot} : ltOf ordD x y = ltOf cmpD x y := by rw [ltD_of]; exact decide_eq_decide.2 ordD_lt
theorem ltP_eq : ltOf ordD = ltOf cmpD := funext fun x => funext fun y => ltP_of
theorem sortP_o (n : Nat) (l : List Dot) (h : l.length ≤ 1000000000) : OCall Tryz.prog 65 [.o (.osl 1000 n 2 0 l.length), .p (.v (.func (.func 66) #[] #[]))] (memL [(1000, (n + 1, some (.buf 85 2 (l.map pR))))]) (.tup []) (memL [(1000, (n + 1, some (.buf 85 2 ((sortD l).map pR))))]) := by
  have := sort_o (ρ := Tryz.lay65_ren) Tryz.lay65 2 (by decide) (TI.run_isAgg (inferInstance : TI Tryz.prog 85 _ _ _)) (TI.run_sizeOf (inferInstance : TI Tryz.prog 85 _ _ _)) encP (fun _ => rfl)
    (fun x v hv => by simp [encP] at hv; rcases hv with rfl | rfl <;> rfl) ordD (by rw [ltP_eq]; exact swoD) (fun x y => by rw [ltP_eq]; exact totD x y) 66 inferInstance (fun x y => ordP_w x y) 85 n l (by omega)
  rw [ltP_eq] at this
  exact this
instance sortP_i {c g n : Nat} {l : List Dot} : OC Tryz.prog 65 [.o (.osl c g 2 0 l.length), .p (.v (.func (.func 66) #[] #[]))] [(c, (n, some (.buf 85 2 (l.map pR))))] [] (n = g + 1 ∧ l.length ≤ 1000000000) (.tup []) [(c, (n, some (.buf 85 2 ((sortD l).map pR))))] := ⟨fun h => by obtain ⟨rfl, h⟩ := h; exact (sortP_o g l h).one c⟩
/-- a node's points; all nodes' -/
def rowP (node : Nat) : Nat → List Dot
  | 0 => []
  | j + 1 => rowP node j ++ [(ptF node j, (node : Int))]
def rawP (v : Nat) : Nat → List Dot
  | 0 => []
  | k + 1 => rawP v k ++ rowP (k + 1) v
def pts (n v : Nat) : List Dot := sortD (rawP v n)
theorem rowP_len (node : Nat) : ∀ j, (rowP node j).length = j
  | 0 => rfl
  | j + 1 => by rw [rowP, List.length_append, rowP_len node j]; rfl
theorem rawP_len (v : Nat) : ∀ k, (rawP v k).length = k * v
  | 0 => by rw [rawP, Nat.zero_mul]; rfl
  | k + 1 => by rw [rawP, List.length_append, rawP_len v k, rowP_len, Nat.succ_mul]
theorem pts_len (n v : Nat) : (pts n v).length = n * v := by unfold pts; rw [sortD_len, rawP_len]
theorem lop_ap_pt {C : Ctx} {o : Oper} {σ : St} {T e : TypeId} {x y : Operand} {sz by_ es be : Nat} {ke : TK} {l : List Dot} {z : List Value} {ey : Bool} {ob g n len : Nat} {a b : Int} (ho : o.op = .call ⟨.builtin .append, #[x, y], #[T, T]⟩) (hT : TI C.P T (.slice e) sz by_) (he : TI C.P e ke es be) (hz : TZ C.P e z) (hx : σ.look x = .o (.osl ob g es 0 len)) (hm : σ.mem ob = (n, some (.buf e es (l.map pR)))) (hn : n = g + 1) (hlr : len = l.length)
    (hy : σ.look y = .p (.sl es [[.k .u64 a, .i b]] ey)) (hzl : z.length = es) (h63 : l.length + 1 ≤ maxLen) (hby : (l.length + 1) * be ≤ 140737488355328) (hd : dOk C o.dst = true) :
    LOp C o σ ⟨.o (.osl ob n es 0 (l ++ [(a, b)]).length), [(ob, (n + 1, some (.buf e es ((l ++ [(a, b)]).map pR))))]⟩ (fun q => q == ob) := lop_ap_o1 (f := pR) (v := (a, b)) ho hT he hz hx hm hn hlr hy rfl hzl h63 hby hd
namespace P7
theorem lopC {C : Ctx} {o : Oper} {σ : St} {e : Eff} {ro : Nat → Bool} (h : LOp C o σ e ro := by
    first
      | (apply lop_ap_pt; (focus rfl); (focus exact inferInstance); (focus exact inferInstance); (focus exact inferInstance); (focus rfl); (focus rfl); (focus rfl); (focus rfl); (focus rfl); (focus rfl); (focus first | (simp only [maxLen, List.length_append, List.length_cons, List.length_nil, List.length_take, List.length_drop, List.length_map]; omega) | omega); (focus first | (simp only [maxLen, List.length_append, List.length_cons, List.length_nil, List.length_take, List.length_drop, List.length_map]; omega) | omega); (focus rfl))
      | (apply gField; (focus rfl); first | exact lop_fieldAddr_p rfl rfl (by decide) rfl rfl | exact lop_fieldAddr_bx rfl rfl (by decide) rfl rfl)
            | (apply lop_bsa; (focus rfl); (focus exact inferInstance); (focus exact inferInstance); (focus exact inferInstance); (focus repeat' (first | exact All2.nil | (apply bs_cons; (focus rfl); (focus rfl); (focus rfl)))); (focus rfl); (focus decide); (focus first | decide | omega); (focus rfl); (focus rfl))
            | (apply lop_mfa1; (focus rfl); (focus rfl); (focus rfl); (focus rfl); (focus rfl); (focus rfl))
            | (apply lop_mfa2; (focus rfl); (focus rfl); (focus rfl); (focus rfl); (focus rfl); (focus rfl); (focus rfl); (focus rfl); (focus rfl); (focus decide); (focus rfl))
            | (apply lop_mfa3; (focus rfl); (focus rfl); (focus rfl); (focus rfl); (focus rfl); (focus rfl); (focus rfl); (focus rfl); (focus rfl); (focus rfl); (focus rfl); (focus rfl); (focus rfl); (focus decide); (focus decide); (focus decide); (focus rfl))
            | (apply gLoad; (focus rfl); apply lop_ld_bxp; (focus rfl); (focus exact inferInstance); (focus rfl); (focus rfl); (focus rfl); (focus rfl); (focus rfl))
      | exact lopQ
      | fail) : LOp C o σ e ro := h
section steps
variable {C : Ctx} {ops : Array Oper} {o : Oper} {rest : List Oper} {K : St → Prop} {σ : St} {e : Eff} {ro : Nat → Bool} {W : List (Nat × Nat)} {i : Nat}
theorem rnC {d : Nat} (hk : RunN C ops rest K (e.app (some d) σ)) (hg : Guard ops σ o true := by first | exact gd_n rfl rfl | exact gd_t rfl rfl rfl rfl | exact gd_t rfl rfl rfl (by assumption)) (hd : o.dst = some d := by rfl) (h : LOp C o σ e ro := by exact lopC) : RunN C ops (o :: rest) K σ := rn_any hg hd h hk
theorem rkC {d : Nat} (hk : RunK C ops W (i + 1) rest K (e.app (some d) σ)) (hg : Guard ops σ o true := by first | exact gd_n rfl rfl | exact gd_t rfl rfl rfl rfl | exact gd_t rfl rfl rfl (by assumption)) (hd' : o.dst = some d := by rfl) (hd : dOk C o.dst = true := by rfl) (h : LOp C o σ e ro := by exact lopC)
    (hro : ∀ x, ro x = true → okObj ops W i x = true := by first | exact fun _ => ro_none | exact ro_one rfl | exact ro_one (by kernel_rfl) | exact ro_kIn (by decide)) (hob : ∀ p ∈ e.obj, (i, p.1) ∈ W := by first | exact ob_none | exact ob_one (by decide) | decide) : RunK C ops W i (o :: rest) K σ := rk_wr hg hd' hd h hro hob hk
end steps
end P7
open P7
theorem lay_o (q n v r : Nat) (hn : n ≤ 8) (hv : v ≤ 16) : OCall Tryz.prog 55 [.o (.ptr 1000 q 0)] (memL [(1000, (q + 1, some (.box 71 [.p (.i n), .p (.i v), .p (.i r), .p (.k .u32 0), .p (.k .i32 1), .p (.k .u32 0), .p (.v (.slice none 0 0))])))]) (.tup [])
    (memL [(1000, (q + 1, some (.box 71 [.p (.i n), .p (.i v), .p (.i r), .p (.k .u32 0), .p (.k .i32 1), .p (.k .u32 0), .p (.sl 2 ((pts n v).map pR) false)])))]) := by
  refine ocall_of1 Tryz.func55 rfl (fun w0 F S0 M0 => ?_)
  refine aws_says (says_nil_at (p := 1000) (o := 901) (k := 6) (ty := 85) (es := 2) rfl rfl rfl rfl (by decide) (by decide)) ?_
  repeat' (first
      | refine rnC ?_
      | refine rnSB ?_
      | refine rnG ?_
      | refine rnU ?_
      | ((fail_if_success (refine rnKn ?_)); refine rnP ?_ ?_ <;> (intro hq; try (have hq' := hq; simp only [hqs] at hq')))
      | refine rkC ?_
      | refine rkSB ?_
      | refine rkF ?_
      | refine rkU ?_
      | ((fail_if_success (refine rkKn ?_)); refine rkP ?_ ?_ <;> (intro hq; try (have hq' := hq; simp only [hqs] at hq')))
      | refine stp ?_
      | refine ifT ?_
      | refine ifF ?_
      | (refine ifQ ?_ ?_ <;> (try (intro hn)))
      | (refine ifB ?_ ?_ <;> (intro hq; try (have hq' := hq; simp only [hqs] at hq'))))
  refine aws_loopS [2, 3, 4, 5, 6, 7, 8, 9, 10, 11, 12, 13, 14, 15, 16, 17, 18, 19, 20, 21, 22, 23, 24, 25, 26, 27, 28, 29, 30, 31, 32, 33, 34, 35, 36, 37, 38, 39, 40] [1000, 901] (fun (s : Nat × Nat × List Dot) => [(2, .p (.i (s.1 + 1)))])
    (fun s => [(1000, (q + 1, some (.box 71 [.p (.i n), .p (.i v), .p (.i r), .p (.k .u32 0), .p (.k .i32 1), .p (.k .u32 0), .osl 901 s.2.1 2 0 s.2.2.length]))), (901, (s.2.1 + 1, some (.buf 85 2 (s.2.2.map pR))))])
    (fun s => s.1 ≤ n ∧ s.2.2 = rawP v s.1) (fun s => n - s.1) (0, 0, []) ⟨Nat.zero_le _, rfl⟩ (by exact knA) (by exact knA) ?_
  rintro ⟨k, g, L⟩ β γ ⟨hk, hL⟩
  dsimp only at hk hL ⊢
  have hkv : k * v ≤ 8 * 16 := Nat.mul_le_mul (by omega) hv
  have hll : L.length ≤ 128 := by rw [hL, rawP_len]; exact hkv
  by_cases hkn : k < n
  · have d1 : decide ((k : Int) + 1 ≤ (n : Int)) = true := decide_eq_true (by omega)
    repeat' (first
        | refine rnC ?_
        | refine rnSB ?_
        | refine rnG ?_
        | refine rnU ?_
        | ((fail_if_success (refine rnKn ?_)); refine rnP ?_ ?_ <;> (intro hq; try (have hq' := hq; simp only [hqs] at hq')))
        | refine rkC ?_
        | refine rkSB ?_
        | refine rkF ?_
        | refine rkU ?_
        | ((fail_if_success (refine rkKn ?_)); refine rkP ?_ ?_ <;> (intro hq; try (have hq' := hq; simp only [hqs] at hq')))
        | refine stp ?_
        | refine ifT ?_
        | refine ifF ?_
        | (refine ifQ ?_ ?_ <;> (try (intro hn)))
        | (refine ifB ?_ ?_ <;> (intro hq; try (have hq' := hq; simp only [hqs] at hq'))))
    refine aws_loopS [3, 18, 19, 20, 21, 22, 23, 24, 25, 26, 27, 28, 29, 30, 31, 32, 33, 34, 35, 36, 37, 38, 39, 40] [1000, 901] (fun (s : Nat × Nat × List Dot) => [(18, .p (.i s.1))])
      (fun s => [(1000, (q + 1, some (.box 71 [.p (.i n), .p (.i v), .p (.i r), .p (.k .u32 0), .p (.k .i32 1), .p (.k .u32 0), .osl 901 s.2.1 2 0 s.2.2.length]))), (901, (s.2.1 + 1, some (.buf 85 2 (s.2.2.map pR))))])
      (fun s => s.1 ≤ v ∧ s.2.2 = rawP v k ++ rowP (k + 1) s.1) (fun s => v - s.1) (0, g, L) ⟨Nat.zero_le _, by rw [rowP, List.append_nil]; exact hL⟩ (by exact knA) (by exact knA) ?_
    clear hL hll
    rintro ⟨j, g, L⟩ β γ ⟨hj, hL⟩
    dsimp only at hj hL ⊢
    have hll : L.length ≤ 144 := by rw [hL, List.length_append, rawP_len, rowP_len]; omega
    by_cases hjv : j < v
    · have d2 : decide ((j : Int) < (v : Int)) = true := decide_eq_true (by omega)
      repeat' (first
          | refine rnC ?_
          | refine rnSB ?_
          | refine rnG ?_
          | refine rnU ?_
          | ((fail_if_success (refine rnKn ?_)); refine rnP ?_ ?_ <;> (intro hq; try (have hq' := hq; simp only [hqs] at hq')))
          | refine rkC ?_
          | refine rkSB ?_
          | refine rkF ?_
          | refine rkU ?_
          | ((fail_if_success (refine rkKn ?_)); refine rkP ?_ ?_ <;> (intro hq; try (have hq' := hq; simp only [hqs] at hq')))
          | refine stp ?_
          | refine ifT ?_
          | refine ifF ?_
          | (refine ifQ ?_ ?_ <;> (try (intro hn)))
          | (refine ifB ?_ ?_ <;> (intro hq; try (have hq' := hq; simp only [hqs] at hq'))))
      refine aws_draws [(16, 901), (19, 1000)] mixed (by kernel_rfl) ?_
      repeat' (first
          | refine rk_nil ?_
          | refine rkC ?_
          | refine rkSB ?_
          | refine rkF ?_
          | refine rkU ?_
          | ((fail_if_success (refine rkKn ?_)); refine rkP ?_ ?_ <;> (intro hq; try (have hq' := hq; simp only [hqs] at hq'))))
      as_aux_lemma =>
        repeat' (first
            | refine rnC ?_
            | refine rnSB ?_
            | refine rnG ?_
            | refine rnU ?_
            | ((fail_if_success (refine rnKn ?_)); refine rnP ?_ ?_ <;> (intro hq; try (have hq' := hq; simp only [hqs] at hq')))
            | refine rkC ?_
            | refine rkSB ?_
            | refine rkF ?_
            | refine rkU ?_
            | ((fail_if_success (refine rkKn ?_)); refine rkP ?_ ?_ <;> (intro hq; try (have hq' := hq; simp only [hqs] at hq')))
            | refine stp ?_
            | refine ifT ?_
            | refine ifF ?_
            | (refine ifQ ?_ ?_ <;> (try (intro hn)))
            | (refine ifB ?_ ?_ <;> (intro hq; try (have hq' := hq; simp only [hqs] at hq'))))
        refine ⟨(j + 1, g + 1, L ++ [(ptF ((k : Int) + 1) j, (k : Int) + 1)]), _, by dsimp only; omega, ⟨by dsimp only; omega, ?_⟩, .refl, by exact frA⟩
        dsimp only
        rw [hL, rowP, ← List.append_assoc]; rfl
    · have d2 : decide ((j : Int) < (v : Int)) = false := decide_eq_false (by omega)
      obtain rfl : j = v := by omega
      as_aux_lemma =>
        repeat' (first
            | refine rnC ?_
            | refine rnSB ?_
            | refine rnG ?_
            | refine rnU ?_
            | ((fail_if_success (refine rnKn ?_)); refine rnP ?_ ?_ <;> (intro hq; try (have hq' := hq; simp only [hqs] at hq')))
            | refine rkC ?_
            | refine rkSB ?_
            | refine rkF ?_
            | refine rkU ?_
            | ((fail_if_success (refine rkKn ?_)); refine rkP ?_ ?_ <;> (intro hq; try (have hq' := hq; simp only [hqs] at hq')))
            | refine stp ?_
            | refine ifT ?_
            | refine ifF ?_
            | (refine ifQ ?_ ?_ <;> (try (intro hn)))
            | (refine ifB ?_ ?_ <;> (intro hq; try (have hq' := hq; simp only [hqs] at hq'))))
        exact ⟨(k + 1, g, L), _, by dsimp only; omega, ⟨by dsimp only; omega, by dsimp only; rw [hL]; rfl⟩, .refl, by exact frA⟩
  · have d1 : decide ((k : Int) + 1 ≤ (n : Int)) = false := decide_eq_false (by omega)
    obtain rfl : k = n := by omega
    rw [show pts k v = sortD L by rw [hL]; rfl]
    as_aux_lemma =>
      repeat' (first
          | refine rnC ?_
          | refine rnSB ?_
          | refine rnG ?_
          | refine rnU ?_
          | ((fail_if_success (refine rnKn ?_)); refine rnP ?_ ?_ <;> (intro hq; try (have hq' := hq; simp only [hqs] at hq')))
          | refine rkC ?_
          | refine rkSB ?_
          | refine rkF ?_
          | refine rkU ?_
          | ((fail_if_success (refine rkKn ?_)); refine rkP ?_ ?_ <;> (intro hq; try (have hq' := hq; simp only [hqs] at hq')))
          | refine stp ?_
          | refine ifT ?_
          | refine ifF ?_
          | (refine ifQ ?_ ?_ <;> (try (intro hn)))
          | (refine ifB ?_ ?_ <;> (intro hq; try (have hq' := hq; simp only [hqs] at hq'))))
      exact RetO.mk (res0 rfl rfl) ⟨.box (.cons .p (.cons .p (.cons .p (.cons .p (.cons .p (.cons .p (.cons (finC_map rfl rfl rfl (sortD_len L).symm) .nil))))))), trivial⟩
end Go.Proofs.YthhlcdacmlnjdaaGreat.Rg
