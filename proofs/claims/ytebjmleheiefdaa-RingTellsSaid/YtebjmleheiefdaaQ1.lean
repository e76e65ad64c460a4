/- rings in plain Lean: points in order, turned to a base; of their nodes the first unlike ones; rings in plain Lean: who holds how many parts; points put in one by one are in order; the lists of the reference; rings: which memberships may be, lists of numbers -/
import Derived.Test.YtebjmleheiefdaaCaQ
import Derived.Test.YtebjmleheiefdaaKx
import Derived.Test.YtebjmleheiefdaaKj
namespace Go.Proofs.Ytebjmleheiefdaa.Rg
open Go Go.RowKit Go.Aw Go.Aw.Cart Go.Aw.Ord Go.Sort Go.Proofs.Ytebjmleheiefdaa.Ca
set_option linter.unusedVariables false
set_option linter.unusedSimpArgs false
set_option maxRecDepth 8000
set_option maxHeartbeats 4000000
/-! each number once, in the order in which they come -/
def dl (l : List Int) : List Int := l.foldl (fun acc x => if x ∈ acc then acc else acc ++ [x]) []
theorem dl_snoc (l : List Int) (x : Int) : dl (l ++ [x]) = if x ∈ dl l then dl l else dl l ++ [x] := by
  unfold dl; rw [List.foldl_append]; rfl
/-- what holds of [] and of one more holds of all -/
theorem snoc_ind {α : Type} {P : List α → Prop} (h0 : P []) (hs : ∀ l x, P l → P (l ++ [x])) (l : List α) : P l := by
  have key : ∀ k, P (l.take k) := by
    intro k
    induction k with
    | zero => rw [List.take_zero]; exact h0
    | succ k ih =>
      by_cases hk : k < l.length
      · rw [List.take_succ_eq_append_getElem hk]; exact hs _ _ ih
      · rw [List.take_of_length_le (by omega)]; rw [List.take_of_length_le (by omega)] at ih; exact ih
  have := key l.length
  rwa [List.take_length] at this
theorem dl_mem (l : List Int) : ∀ y, y ∈ dl l ↔ y ∈ l := by
  refine snoc_ind (P := fun l => ∀ y, y ∈ dl l ↔ y ∈ l) (fun y => Iff.rfl) (fun l x ih y => ?_) l
  rw [dl_snoc, List.mem_append, List.mem_singleton]
  split
  · rename_i h
    rw [ih y]
    exact ⟨.inl, fun k => k.elim id fun e => by rw [e]; exact (ih x).1 h⟩
  · rw [List.mem_append, List.mem_singleton, ih y]
theorem dl_nodup (l : List Int) : (dl l).Nodup := by
  refine snoc_ind (P := fun l => (dl l).Nodup) List.nodup_nil (fun l x ih => ?_) l
  rw [dl_snoc]
  split
  · exact ih
  · rename_i h
    refine List.nodup_append.2 ⟨ih, List.nodup_cons.2 ⟨by simp, List.nodup_nil⟩, fun a ha b hb e => ?_⟩
    rw [List.mem_singleton.1 hb] at e; rw [e] at ha; exact h ha
theorem dl_filter (p : Int → Bool) (l : List Int) : dl (l.filter p) = (dl l).filter p := by
  refine snoc_ind (P := fun l => dl (l.filter p) = (dl l).filter p) rfl (fun l x ih => ?_) l
  rw [List.filter_append, dl_snoc]
  cases hx : p x with
  | true =>
    rw [List.filter_cons_of_pos hx, List.filter_nil, dl_snoc, ih]
    by_cases h : x ∈ dl l
    · rw [if_pos h, if_pos (List.mem_filter.2 ⟨h, hx⟩)]
    · rw [if_neg h, if_neg (fun k => h (List.mem_filter.1 k).1), List.filter_append, List.filter_cons_of_pos hx, List.filter_nil]
  | false =>
    rw [List.filter_cons_of_neg (by rw [hx]; simp), List.filter_nil, List.append_nil, ih]
    by_cases h : x ∈ dl l
    · rw [if_pos h]
    · rw [if_neg h, List.filter_append, List.filter_cons_of_neg (by rw [hx]; simp), List.filter_nil, List.append_nil]
/-- what has come already does not count -/
theorem dl_skip (a : List Int) (p : Int → Bool) (l : List Int) (h : ∀ x ∈ l, p x = false → x ∈ a) : dl (a ++ l) = dl (a ++ l.filter p) := by
  refine (snoc_ind (P := fun l => (∀ x ∈ l, p x = false → x ∈ a) → dl (a ++ l) = dl (a ++ l.filter p)) (fun _ => rfl) (fun l x ih k => ?_) l) h
  have ih' := ih fun y hy => k y (List.mem_append_left _ hy)
  rw [← List.append_assoc, dl_snoc, ih', List.filter_append]
  cases hx : p x with
  | true => rw [List.filter_cons_of_pos hx, List.filter_nil, ← List.append_assoc, dl_snoc]
  | false =>
    rw [List.filter_cons_of_neg (by rw [hx]; simp), List.filter_nil, List.append_nil, if_pos]
    rw [dl_mem, List.mem_append]
    exact .inl (k x (by simp) hx)
/-- the first unlike ones, at most r, as far as they were looked at -/
def pickTo (r : Nat) (l : List Int) : Nat → List Int
  | 0 => []
  | k + 1 => if (pickTo r l k).length < r ∧ l.getD k default ∉ pickTo r l k then pickTo r l k ++ [l.getD k default] else pickTo r l k
theorem take_in {l : List Int} {r : Nat} {x : Int} (h : (l.take r).length < r) : x ∈ l.take r ↔ x ∈ l := by
  rw [List.length_take] at h
  rw [List.take_of_length_le (by omega)]
theorem pickTo_is {r : Nat} {l : List Int} : ∀ k, k ≤ l.length → pickTo r l k = (dl (l.take k)).take r
  | 0, _ => by rw [pickTo, List.take_zero]; exact (List.take_nil (i := r)).symm
  | k + 1, h => by
    have ih := pickTo_is (r := r) (l := l) k (by omega)
    rw [pickTo, ih, take_get' (show k < l.length by omega), dl_snoc]
    by_cases hl : ((dl (l.take k)).take r).length < r
    · have hlen := hl
      rw [List.length_take] at hlen
      by_cases hx : l.getD k default ∈ dl (l.take k)
      · rw [if_pos hx, if_neg (fun q => q.2 ((take_in hl).2 hx))]
      · have e1 : (dl (l.take k)).take r = dl (l.take k) := List.take_of_length_le (by omega)
        have e2 : (dl (l.take k) ++ [l.getD k default]).take r = dl (l.take k) ++ [l.getD k default] := List.take_of_length_le (by rw [List.length_append, List.length_singleton]; omega)
        rw [if_neg hx, if_pos ⟨hl, fun q => hx ((take_in hl).1 q)⟩, e1, e2]
    · rw [if_neg (fun q => hl q.1)]
      rw [List.length_take] at hl
      split
      · rfl
      · exact (List.take_append_of_le_length (l₁ := dl (l.take k)) (by omega)).symm
/-! points, and lists -/
/-- points in order, from a base on, and round -/
def rotF (base : Int) (L : List Dot) : List Dot := (L.filter fun p => decide (base ≤ p.1)) ++ L.filter fun p => !decide (base ≤ p.1)
def listF (L : List Dot) (r : Nat) (base : Int) : List Int := (dl ((rotF base L).map (·.2))).take r
theorem rot_mem {base : Int} {L : List Dot} {p : Dot} : p ∈ rotF base L ↔ p ∈ L := by
  unfold rotF
  rw [List.mem_append, List.mem_filter, List.mem_filter]
  constructor
  · rintro (k | k) <;> exact k.1
  · intro k
    by_cases h : base ≤ p.1
    · exact .inl ⟨k, decide_eq_true h⟩
    · exact .inr ⟨k, by rw [decide_eq_false h]; rfl⟩
theorem rot_filter {base : Int} {L : List Dot} (q : Dot → Bool) : rotF base (L.filter q) = (rotF base L).filter q := by
  unfold rotF
  rw [List.filter_append, List.filter_filter, List.filter_filter, List.filter_filter, List.filter_filter]
  congr 1 <;> (refine List.filter_congr fun p _ => ?_) <;> exact Bool.and_comm _ _
theorem list_nodup (L : List Dot) (r : Nat) (base : Int) : (listF L r base).Nodup := (dl_nodup _).sublist (List.take_sublist _ _)
theorem list_sub {L : List Dot} {r : Nat} {base n : Int} (h : n ∈ listF L r base) : ∃ p ∈ L, p.2 = n := by
  have := List.mem_of_mem_take h
  rw [dl_mem, List.mem_map] at this
  obtain ⟨p, hp, e⟩ := this
  exact ⟨p, rot_mem.1 hp, e⟩
/-- numbers that are those from 1 to n, each once -/
theorem upto_len {l : List Int} {n : Nat} (hn : l.Nodup) (h : ∀ x, x ∈ l ↔ 1 ≤ x ∧ x ≤ n) : l.length = n := by
  have hp : l.Perm ((List.range n).map fun k : Nat => (k : Int) + 1) := (List.perm_ext_iff_of_nodup hn (by
    rw [List.Nodup, List.pairwise_map]
    exact List.nodup_range.imp fun {a b} k e => k (by omega))).2 fun x => by
    rw [h, List.mem_map]
    constructor
    · rintro ⟨h1, h2⟩
      exact ⟨(x - 1).toNat, List.mem_range.2 (by omega), by omega⟩
    · rintro ⟨k, hk, rfl⟩
      have := List.mem_range.1 hk
      omega
  rw [hp.length_eq, List.length_map, List.length_range]
theorem list_len {L : List Dot} {r n : Nat} {base : Int} (h : ∀ x, (∃ p ∈ L, p.2 = x) ↔ 1 ≤ x ∧ x ≤ n) (hr : r ≤ n) : (listF L r base).length = r := by
  unfold listF
  rw [List.length_take, upto_len (dl_nodup _) (n := n) fun x => ?_]
  · omega
  · rw [dl_mem, List.mem_map, ← h x]
    exact ⟨fun ⟨p, hp, e⟩ => ⟨p, rot_mem.1 hp, e⟩, fun ⟨p, hp, e⟩ => ⟨p, rot_mem.2 hp, e⟩⟩
/-- RingGrows: without the new node the list is a part of what there was, from its first one on -/
theorem list_grows {L : List Dot} {r : Nat} {base d : Int} : ((listF L r base).filter fun x => !decide (x = d)) <+: listF (L.filter fun p => !decide (p.2 = d)) r base := by
  unfold listF
  have e : dl ((rotF base (L.filter fun p => !decide (p.2 = d))).map (·.2)) = (dl ((rotF base L).map (·.2))).filter fun x => !decide (x = d) := by
    rw [rot_filter, ← dl_filter, List.filter_map]; rfl
  rw [e]
  generalize dl ((rotF base L).map (·.2)) = l
  have h1 : ((l.take r).filter fun x => !decide (x = d)) <+: l.filter fun x => !decide (x = d) := List.IsPrefix.filter _ (List.take_prefix _ _)
  have h2 : ((l.take r).filter fun x => !decide (x = d)).length ≤ r := Nat.le_trans (List.length_filter_le _ _) (by rw [List.length_take]; omega)
  exact List.prefix_take_iff.2 ⟨h1, h2⟩
end Go.Proofs.Ytebjmleheiefdaa.Rg
namespace Go.Proofs.Ytebjmleheiefdaa.Rg
open Go Go.RowKit Go.Aw Go.Aw.Cart Go.Aw.Ord Go.Sort Go.Proofs.Ytebjmleheiefdaa.Ca
set_option linter.unusedVariables false
set_option linter.unusedSimpArgs false
set_option maxRecDepth 8000
set_option maxHeartbeats 4000000
/-! counting twice -/
def sm (g : Nat → Nat) : Nat → Nat
  | 0 => 0
  | n + 1 => sm g n + g n
theorem sm_add (g h : Nat → Nat) : ∀ n, sm (fun k => g k + h k) n = sm g n + sm h n
  | 0 => rfl
  | n + 1 => by rw [sm, sm, sm, sm_add g h n]; omega
theorem sm_zero : ∀ n, sm (fun _ => 0) n = 0
  | 0 => rfl
  | n + 1 => by rw [sm, sm_zero n]
theorem sm_congr {g h : Nat → Nat} : ∀ {n : Nat}, (∀ k, k < n → g k = h k) → sm g n = sm h n
  | 0, _ => rfl
  | n + 1, e => by rw [sm, sm, sm_congr fun k hk => e k (by omega), e n (by omega)]
theorem range_filter (q : Nat → Bool) (n : Nat) : ((List.range (n + 1)).filter q).length = ((List.range n).filter q).length + if q n = true then 1 else 0 := by
  rw [List.range_succ, List.filter_append, List.length_append]
  congr 1
  by_cases h : q n = true
  · rw [List.filter_cons_of_pos h, if_pos h]; rfl
  · rw [List.filter_cons_of_neg h, if_neg h]; rfl
theorem filter_sm (q : Nat → Bool) : ∀ n, ((List.range n).filter q).length = sm (fun k => if q k = true then 1 else 0) n
  | 0 => rfl
  | n + 1 => by rw [range_filter, filter_sm q n, sm]
theorem twice (q : Nat → Nat → Bool) (m : Nat) : ∀ n, sm (fun k => ((List.range m).filter (q k)).length) n = sm (fun p => ((List.range n).filter fun k => q k p).length) m
  | 0 => by rw [sm]; exact (sm_zero m).symm
  | n + 1 => by
    rw [sm, twice q m n, filter_sm, ← sm_add]
    exact sm_congr fun p _ => (range_filter (fun k => q k p) n).symm
theorem count_in {l : List Int} {n : Nat} (hn : l.Nodup) (h : ∀ x ∈ l, 1 ≤ x ∧ x ≤ n) : ((List.range n).filter fun k : Nat => decide (((k : Int) + 1) ∈ l)).length = l.length := by
  have hp : (((List.range n).filter fun k : Nat => decide (((k : Int) + 1) ∈ l)).map fun k : Nat => (k : Int) + 1).Perm l := (List.perm_ext_iff_of_nodup (by
    rw [List.Nodup, List.pairwise_map]
    exact (List.nodup_range.sublist List.filter_sublist).imp fun {a b} k e => k (by omega)) hn).2 fun x => by
    rw [List.mem_map]
    constructor
    · rintro ⟨k, hk, rfl⟩
      exact of_decide_eq_true (List.mem_filter.1 hk).2
    · intro hx
      have := h x hx
      exact ⟨(x - 1).toNat, List.mem_filter.2 ⟨List.mem_range.2 (by omega), decide_eq_true (by rw [show (((x - 1).toNat : Nat) : Int) + 1 = x by omega]; exact hx)⟩, by omega⟩
  rw [← hp.length_eq, List.length_map]
/-- RingHolds: of m parts each is held by r nodes: all nodes' parts are m * r -/
theorem parts_sum {f : Nat → List Int} {m n r : Nat} (hf : ∀ p, p < m → (f p).Nodup ∧ (∀ x ∈ f p, 1 ≤ x ∧ x ≤ n) ∧ (f p).length = r) :
    sm (fun k : Nat => ((List.range m).filter fun p : Nat => decide (((k : Int) + 1) ∈ f p)).length) n = m * r := by
  rw [twice (fun (k p : Nat) => decide (((k : Int) + 1) ∈ f p)) m n, sm_congr (h := fun _ => r) fun p hp => by rw [count_in (hf p hp).1 (hf p hp).2.1]; exact (hf p hp).2.2]
  clear hf
  induction m with
  | zero => simp [sm]
  | succ m ih => rw [sm, ih, Nat.succ_mul]
/-! points put in one by one -/
def leP (a b : Dot) : Prop := a.1 ≤ b.1
instance leP_dec (a b : Dot) : Decidable (leP a b) := by unfold leP; infer_instance
theorem ins_up {e : Dot} : ∀ {L : List Dot}, upI ltD L → (∀ a ∈ L, a.2 ≤ e.2) → upI ltD (insI leP e L)
  | [], _, _ => by rw [insI_nil]; exact List.pairwise_singleton _ _
  | x :: L, h, hn => by
    rw [insI_cons]
    obtain ⟨h1, h2⟩ := List.pairwise_cons.1 h
    split
    · rename_i hx
      refine List.pairwise_cons.2 ⟨fun y hy => ?_, ins_up h2 fun a ha => hn a (List.mem_cons_of_mem _ ha)⟩
      rcases insI_mem.1 hy with rfl | k
      · have := hn x List.mem_cons_self
        unfold leP at hx; unfold ltD; omega
      · exact h1 y k
    · rename_i hx
      unfold leP at hx
      refine List.pairwise_cons.2 ⟨fun y hy => ?_, h⟩
      rcases List.mem_cons.1 hy with rfl | k
      · unfold ltD; omega
      · have := h1 y k
        unfold ltD at this ⊢; omega
def inP (l : List Dot) : Nat → List Dot
  | 0 => []
  | k + 1 => insI leP (l.getD k default) (inP l k)
theorem inP_is {l : List Dot} (hl : l.Pairwise fun a b => a.2 ≤ b.2) : ∀ k, k ≤ l.length → (inP l k).Perm (l.take k) ∧ upI ltD (inP l k)
  | 0, _ => ⟨by rw [inP, List.take_zero], List.Pairwise.nil⟩
  | k + 1, h => by
    obtain ⟨h1, h2⟩ := inP_is hl k (by omega)
    have hk : k < l.length := by omega
    refine ⟨?_, ins_up h2 fun a ha => ?_⟩
    · rw [inP, take_get' hk]
      exact insI_perm.trans ((h1.cons _).trans (List.perm_append_comm (l₁ := [l.getD k default]) (l₂ := l.take k)))
    · have ha' := h1.mem_iff.1 ha
      obtain ⟨i, hi, rfl⟩ := List.mem_take_iff_getElem.1 ha'
      rw [getD_at hk]
      exact List.pairwise_iff_getElem.1 hl i k (by omega) hk (by omega)
theorem inP_all {l : List Dot} (hl : l.Pairwise fun a b => a.2 ≤ b.2) : inP l l.length = sortD l := by
  obtain ⟨h1, h2⟩ := inP_is hl l.length (Nat.le_refl _)
  rw [List.take_length] at h1
  exact up_uniq ltD_tot (h1.trans (sortD_perm l).symm) h2 (sortD_up l)
/-! the reference goes round twice -/
theorem ref_list (L : List Dot) (base : Int) : dl (((L.filter fun p => decide (base ≤ p.1)) ++ L).map (·.2)) = dl ((rotF base L).map (·.2)) := by
  unfold rotF
  rw [List.map_append, List.map_append]
  -- what stands at the base or behind it has come already
  have key : ∀ M : List Dot, (∀ p ∈ M, base ≤ p.1 → p ∈ L) → dl ((L.filter fun p => decide (base ≤ p.1)).map (·.2) ++ M.map (·.2)) = dl ((L.filter fun p => decide (base ≤ p.1)).map (·.2) ++ (M.filter fun p => !decide (base ≤ p.1)).map (·.2)) := by
    refine snoc_ind (fun _ => rfl) fun M x ih h => ?_
    have ih' := ih fun p hp => h p (List.mem_append_left _ hp)
    rw [List.map_append, ← List.append_assoc, List.map_singleton, dl_snoc, ih', List.filter_append]
    by_cases hx : base ≤ x.1
    · rw [List.filter_cons_of_neg (by rw [decide_eq_true hx]; simp), List.filter_nil, List.append_nil, if_pos]
      rw [dl_mem, List.mem_append, List.mem_map]
      exact .inl ⟨x, List.mem_filter.2 ⟨h x (by simp) hx, decide_eq_true hx⟩, rfl⟩
    · rw [List.filter_cons_of_pos (by rw [decide_eq_false hx]; rfl), List.filter_nil, List.map_append, ← List.append_assoc, List.map_singleton, dl_snoc]
  exact key L fun p hp _ => hp
end Go.Proofs.Ytebjmleheiefdaa.Rg
namespace Go.Proofs.Ytebjmleheiefdaa.Rg
open Go Go.RowKit Go.Aw Go.Aw.Cart Go.Aw.Ord Go.Sort Go.Proofs.Ytebjmleheiefdaa.Ca
set_option linter.unusedVariables false
set_option linter.unusedSimpArgs false
set_option maxRecDepth 8000
set_option maxHeartbeats 4000000
abbrev iR (n : Int) : List PVal := [.i n]
abbrev uR (n : Int) : List PVal := [.k .u64 n]
namespace W2
theorem lopC {C : Ctx} {o : Oper} {σ : St} {e : Eff} {ro : Nat → Bool} (h : LOp C o σ e ro := by
    first
      | (apply gCallF; (focus rfl); first
          | (apply lop_lend2; (focus rfl); (focus exact inferInstance); (focus rfl); (focus rfl); (focus rfl); (focus exact (List.length_map ..).symm); (focus first | exact lk_m1 rfl | exact lk_m2 rfl | exact lk_m3 rfl | exact lk_o rfl | exact lk_a2 rfl | exact lk_a3 rfl | exact lk_a4 rfl | exact lk_a1 rfl | exact lk_a5 rfl | exact lk_a6 rfl | exact lk_a7 rfl | exact lk_a8 rfl | exact lk_a rfl); (focus exact inferInstance); (focus exact inferInstance); (focus first | exact True.intro | assumption | rfl | omega | ((repeat' (first | assumption | refine And.intro ?_ ?_ | omega | rfl)); done) | fail); (focus exact RV.v); (focus rfl)))
      | exact lopQ
      | fail) : LOp C o σ e ro := h
section steps
variable {C : Ctx} {ops : Array Oper} {o : Oper} {rest : List Oper} {K : St → Prop} {σ : St} {e : Eff} {ro : Nat → Bool} {W : List (Nat × Nat)} {i : Nat}
theorem rnC {d : Nat} (hk : RunN C ops rest K (e.app (some d) σ)) (hg : Guard ops σ o true := by first | exact gd_n rfl rfl | exact gd_t rfl rfl rfl rfl | exact gd_t rfl rfl rfl (by assumption)) (hd : o.dst = some d := by rfl) (h : LOp C o σ e ro := by exact lopC) : RunN C ops (o :: rest) K σ := rn_any hg hd h hk
theorem rkC {d : Nat} (hk : RunK C ops W (i + 1) rest K (e.app (some d) σ)) (hg : Guard ops σ o true := by first | exact gd_n rfl rfl | exact gd_t rfl rfl rfl rfl | exact gd_t rfl rfl rfl (by assumption)) (hd' : o.dst = some d := by rfl) (hd : dOk C o.dst = true := by rfl) (h : LOp C o σ e ro := by exact lopC)
    (hro : ∀ x, ro x = true → okObj ops W i x = true := by first | exact fun _ => ro_none | exact ro_one rfl | exact ro_one (by kernel_rfl) | exact ro_kIn (by decide)) (hob : ∀ p ∈ e.obj, (i, p.1) ∈ W := by first | exact ob_none | exact ob_one (by decide) | decide) : RunK C ops W i (o :: rest) K σ := rk_wr hg hd' hd h hro hob hk
end steps
end W2
open W2
def rRight (n v r : Int) : Bool := decide (1 ≤ n ∧ n ≤ 8 ∧ 1 ≤ v ∧ v ≤ 16 ∧ 1 ≤ r ∧ r ≤ n)
theorem within_r (n t : Int) : PCall Try.prog 19 [.p (.i n), .p (.i t)] (.p (.b (decide (1 ≤ n ∧ n ≤ t)))) := by
  refine pcall_of Try.func19 rfl (fun w0 F S0 M0 => ?_)
  by_cases h1 : 1 ≤ n
  · have d1 : decide (1 ≤ n) = true := decide_eq_true h1
    rw [decide_eq_decide.2 (show (1 ≤ n ∧ n ≤ t) ↔ n ≤ t from ⟨fun k => k.2, fun k => ⟨h1, k⟩⟩)]
    as_aux_lemma =>
      repeat' (first
          | refine rnC ?_
          | refine rnSB ?_
          | refine rnG ?_
          | refine rnU ?_
          | ((fail_if_success (refine rnKn ?_)); refine rnP ?_ ?_ <;> (intro hq; try (have hq' := hq; simp only [hqs] at hq')))
          | refine rkC ?_
          | refine rkSB ?_
          | refine rkF ?_
          | refine rkU ?_
          | ((fail_if_success (refine rkKn ?_)); refine rkP ?_ ?_ <;> (intro hq; try (have hq' := hq; simp only [hqs] at hq')))
          | refine stp ?_
          | refine aws_draws [] mixed (by kernel_rfl) ?_
          | refine ifT ?_
          | refine ifF ?_
          | (refine ifQ ?_ ?_ <;> (try (intro hn)))
          | (refine ifB ?_ ?_ <;> (intro hq; try (have hq' := hq; simp only [hqs] at hq'))))
      exact rt1 rfl rfl finS_p rfl
  · have d1 : decide (1 ≤ n) = false := decide_eq_false h1
    rw [decide_eq_false (fun k => h1 k.1)]
    as_aux_lemma =>
      repeat' (first
          | refine rnC ?_
          | refine rnSB ?_
          | refine rnG ?_
          | refine rnU ?_
          | ((fail_if_success (refine rnKn ?_)); refine rnP ?_ ?_ <;> (intro hq; try (have hq' := hq; simp only [hqs] at hq')))
          | refine rkC ?_
          | refine rkSB ?_
          | refine rkF ?_
          | refine rkU ?_
          | ((fail_if_success (refine rkKn ?_)); refine rkP ?_ ?_ <;> (intro hq; try (have hq' := hq; simp only [hqs] at hq')))
          | refine stp ?_
          | refine aws_draws [] mixed (by kernel_rfl) ?_
          | refine ifT ?_
          | refine ifF ?_
          | (refine ifQ ?_ ?_ <;> (try (intro hn)))
          | (refine ifB ?_ ?_ <;> (intro hq; try (have hq' := hq; simp only [hqs] at hq'))))
      exact rt1 rfl rfl finS_p rfl
instance within_ri {n t : Int} : PC Try.prog 19 [.p (.i n), .p (.i t)] True (.p (.b (decide (1 ≤ n ∧ n ≤ t)))) := ⟨fun _ => within_r n t⟩
theorem ringRight_w (n v r : Int) : PCall Try.prog 7 [.a [.p (.i n), .p (.i v), .p (.i r)]] (.p (.b (rRight n v r))) := by
  refine pcall_of Try.func7 rfl (fun w0 F S0 M0 => ?_)
  unfold rRight
  by_cases h1 : 1 ≤ n ∧ n ≤ 8
  · have d1 : decide (1 ≤ n ∧ n ≤ 8) = true := decide_eq_true h1
    by_cases h2 : 1 ≤ v ∧ v ≤ 16
    · have d2 : decide (1 ≤ v ∧ v ≤ 16) = true := decide_eq_true h2
      rw [decide_eq_decide.2 (show (1 ≤ n ∧ n ≤ 8 ∧ 1 ≤ v ∧ v ≤ 16 ∧ 1 ≤ r ∧ r ≤ n) ↔ (1 ≤ r ∧ r ≤ n) by omega)]
      as_aux_lemma =>
        repeat' (first
            | refine rnC ?_
            | refine rnSB ?_
            | refine rnG ?_
            | refine rnU ?_
            | ((fail_if_success (refine rnKn ?_)); refine rnP ?_ ?_ <;> (intro hq; try (have hq' := hq; simp only [hqs] at hq')))
            | refine rkC ?_
            | refine rkSB ?_
            | refine rkF ?_
            | refine rkU ?_
            | ((fail_if_success (refine rkKn ?_)); refine rkP ?_ ?_ <;> (intro hq; try (have hq' := hq; simp only [hqs] at hq')))
            | refine stp ?_
            | refine aws_draws [] mixed (by kernel_rfl) ?_
            | refine ifT ?_
            | refine ifF ?_
            | (refine ifQ ?_ ?_ <;> (try (intro hn)))
            | (refine ifB ?_ ?_ <;> (intro hq; try (have hq' := hq; simp only [hqs] at hq'))))
        exact rt1 rfl rfl finS_p rfl
    · have d2 : decide (1 ≤ v ∧ v ≤ 16) = false := decide_eq_false h2
      rw [decide_eq_false (by omega)]
      as_aux_lemma =>
        repeat' (first
            | refine rnC ?_
            | refine rnSB ?_
            | refine rnG ?_
            | refine rnU ?_
            | ((fail_if_success (refine rnKn ?_)); refine rnP ?_ ?_ <;> (intro hq; try (have hq' := hq; simp only [hqs] at hq')))
            | refine rkC ?_
            | refine rkSB ?_
            | refine rkF ?_
            | refine rkU ?_
            | ((fail_if_success (refine rkKn ?_)); refine rkP ?_ ?_ <;> (intro hq; try (have hq' := hq; simp only [hqs] at hq')))
            | refine stp ?_
            | refine aws_draws [] mixed (by kernel_rfl) ?_
            | refine ifT ?_
            | refine ifF ?_
            | (refine ifQ ?_ ?_ <;> (try (intro hn)))
            | (refine ifB ?_ ?_ <;> (intro hq; try (have hq' := hq; simp only [hqs] at hq'))))
        exact rt1 rfl rfl finS_p rfl
  · have d1 : decide (1 ≤ n ∧ n ≤ 8) = false := decide_eq_false h1
    rw [decide_eq_false (by omega)]
    as_aux_lemma =>
      repeat' (first
          | refine rnC ?_
          | refine rnSB ?_
          | refine rnG ?_
          | refine rnU ?_
          | ((fail_if_success (refine rnKn ?_)); refine rnP ?_ ?_ <;> (intro hq; try (have hq' := hq; simp only [hqs] at hq')))
          | refine rkC ?_
          | refine rkSB ?_
          | refine rkF ?_
          | refine rkU ?_
          | ((fail_if_success (refine rkKn ?_)); refine rkP ?_ ?_ <;> (intro hq; try (have hq' := hq; simp only [hqs] at hq')))
          | refine stp ?_
          | refine aws_draws [] mixed (by kernel_rfl) ?_
          | refine ifT ?_
          | refine ifF ?_
          | (refine ifQ ?_ ?_ <;> (try (intro hn)))
          | (refine ifB ?_ ?_ <;> (intro hq; try (have hq' := hq; simp only [hqs] at hq'))))
      exact rt1 rfl rfl finS_p rfl
instance ringRight_i {n v r : Int} : PC Try.prog 7 [.a [.p (.i n), .p (.i v), .p (.i r)]] True (.p (.b (rRight n v r))) := ⟨fun _ => ringRight_w n v r⟩
theorem refRight_w (n v r : Int) : PCall Try.prog 8 [.p (.i n), .p (.i v), .p (.i r)] (.p (.b (rRight n v r))) := by
  refine pcall_of Try.func8 rfl (fun w0 F S0 M0 => ?_)
  unfold rRight
  as_aux_lemma =>
    repeat' (first
        | refine rnC ?_
        | refine rnSB ?_
        | refine rnG ?_
        | refine rnU ?_
        | ((fail_if_success (refine rnKn ?_)); refine rnP ?_ ?_ <;> (intro hq; try (have hq' := hq; simp only [hqs] at hq')))
        | refine rkC ?_
        | refine rkSB ?_
        | refine rkF ?_
        | refine rkU ?_
        | ((fail_if_success (refine rkKn ?_)); refine rkP ?_ ?_ <;> (intro hq; try (have hq' := hq; simp only [hqs] at hq')))
        | refine stp ?_
        | refine aws_draws [] mixed (by kernel_rfl) ?_
        | refine ifT ?_
        | refine ifF ?_
        | (refine ifQ ?_ ?_ <;> (try (intro hn)))
        | (refine ifB ?_ ?_ <;> (intro hq; try (have hq' := hq; simp only [hqs] at hq'))))
    all_goals refine rt1 rfl rfl finS_p (rb ?_)
    all_goals first | exact decide_eq_decide.2 (by omega) | exact decide_eq_true (by omega) | exact decide_eq_false (by omega)
instance refRight_i {n v r : Int} : PC Try.prog 8 [.p (.i n), .p (.i v), .p (.i r)] True (.p (.b (rRight n v r))) := ⟨fun _ => refRight_w n v r⟩
theorem in_w (l : List Int) (ex : Bool) (n : Int) (h : l.length ≤ 1000000000) : PCall Try.prog 22 [.p (.sl 1 (l.map iR) ex), .p (.i n)] (.p (.b (decide (n ∈ l)))) := by
  refine pcall_of Try.func22 rfl (fun w0 F S0 M0 => ?_)
  repeat' (first
      | refine rnC ?_
      | refine rnSB ?_
      | refine rnG ?_
      | refine rnU ?_
      | ((fail_if_success (refine rnKn ?_)); refine rnP ?_ ?_ <;> (intro hq; try (have hq' := hq; simp only [hqs] at hq')))
      | refine rkC ?_
      | refine rkSB ?_
      | refine rkF ?_
      | refine rkU ?_
      | ((fail_if_success (refine rkKn ?_)); refine rkP ?_ ?_ <;> (intro hq; try (have hq' := hq; simp only [hqs] at hq')))
      | refine stp ?_
      | refine ifT ?_
      | refine ifF ?_
      | (refine ifQ ?_ ?_ <;> (try (intro hn)))
      | (refine ifB ?_ ?_ <;> (intro hq; try (have hq' := hq; simp only [hqs] at hq'))))
  refine aws_loopS [4, 5, 6, 7, 8, 9, 10, 11, 12, 13, 14, 15, 16, 17] [] (fun (i : Nat) => [(5, .p (.i i))]) (fun _ => []) (fun i => i ≤ l.length ∧ ∀ j, j < i → l.getD j default ≠ n) (fun i => l.length - i) 0 ⟨Nat.zero_le _, fun j hj => absurd hj (Nat.not_lt_zero _)⟩ (by exact knA) (by exact knA) ?_
  rintro i β γ ⟨hi, hx⟩
  by_cases hil : i < l.length
  · have d1 : decide ((i : Int) < (l.length : Int)) = true := decide_eq_true (by omega)
    have ei : (i : Int).toNat = i := Int.toNat_natCast i
    by_cases hq : l.getD (i : Int).toNat default = n
    · have d2 : decide (l.getD (i : Int).toNat default = n) = true := decide_eq_true hq
      rw [decide_eq_true (show n ∈ l by rw [← hq, ei, getD_at hil]; exact List.getElem_mem _)]
      as_aux_lemma =>
        repeat' (first
            | refine rnC ?_
            | refine rnSB ?_
            | refine rnG ?_
            | refine rnU ?_
            | ((fail_if_success (refine rnKn ?_)); refine rnP ?_ ?_ <;> (intro hq; try (have hq' := hq; simp only [hqs] at hq')))
            | refine rkC ?_
            | refine rkSB ?_
            | refine rkF ?_
            | refine rkU ?_
            | ((fail_if_success (refine rkKn ?_)); refine rkP ?_ ?_ <;> (intro hq; try (have hq' := hq; simp only [hqs] at hq')))
            | refine stp ?_
            | refine ifT ?_
            | refine ifF ?_
            | (refine ifQ ?_ ?_ <;> (try (intro hn)))
            | (refine ifB ?_ ?_ <;> (intro hq; try (have hq' := hq; simp only [hqs] at hq'))))
        exact rt1 rfl rfl finS_p rfl
    · have d2 : decide (l.getD (i : Int).toNat default = n) = false := decide_eq_false hq
      rw [ei] at hq
      repeat' (first
          | refine rnC ?_
          | refine rnSB ?_
          | refine rnG ?_
          | refine rnU ?_
          | ((fail_if_success (refine rnKn ?_)); refine rnP ?_ ?_ <;> (intro hq; try (have hq' := hq; simp only [hqs] at hq')))
          | refine rkC ?_
          | refine rkSB ?_
          | refine rkF ?_
          | refine rkU ?_
          | ((fail_if_success (refine rkKn ?_)); refine rkP ?_ ?_ <;> (intro hq; try (have hq' := hq; simp only [hqs] at hq')))
          | refine stp ?_
          | refine ifT ?_
          | refine ifF ?_
          | (refine ifQ ?_ ?_ <;> (try (intro hn)))
          | (refine ifB ?_ ?_ <;> (intro hq; try (have hq' := hq; simp only [hqs] at hq'))))
      refine ⟨i + 1, _, by omega, ⟨by omega, fun j hj => ?_⟩, .refl, by exact frA⟩
      by_cases e : j = i
      · rw [e]; exact hq
      · exact hx j (by omega)
  · have d1 : decide ((i : Int) < (l.length : Int)) = false := decide_eq_false (by omega)
    rw [decide_eq_false (show n ∉ l from fun k => by
      obtain ⟨j, hj, q⟩ := getD_mem k
      exact hx j (by omega) q)]
    as_aux_lemma =>
      repeat' (first
          | refine rnC ?_
          | refine rnSB ?_
          | refine rnG ?_
          | refine rnU ?_
          | ((fail_if_success (refine rnKn ?_)); refine rnP ?_ ?_ <;> (intro hq; try (have hq' := hq; simp only [hqs] at hq')))
          | refine rkC ?_
          | refine rkSB ?_
          | refine rkF ?_
          | refine rkU ?_
          | ((fail_if_success (refine rkKn ?_)); refine rkP ?_ ?_ <;> (intro hq; try (have hq' := hq; simp only [hqs] at hq')))
          | refine stp ?_
          | refine ifT ?_
          | refine ifF ?_
          | (refine ifQ ?_ ?_ <;> (try (intro hn)))
          | (refine ifB ?_ ?_ <;> (intro hq; try (have hq' := hq; simp only [hqs] at hq'))))
      exact rt1 rfl rfl finS_p rfl
instance in_i {l : List Int} {ex : Bool} {n : Int} : PC Try.prog 22 [.p (.sl 1 (l.map iR) ex), .p (.i n)] (l.length ≤ 1000000000) (.p (.b (decide (n ∈ l)))) := ⟨in_w l ex n⟩
end Go.Proofs.Ytebjmleheiefdaa.Rg
