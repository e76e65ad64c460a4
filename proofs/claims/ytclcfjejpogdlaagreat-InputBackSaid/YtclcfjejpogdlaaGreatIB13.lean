/- carts in plain Lean: entries in order, sets of dots, values: in two ways // carts in plain Lean: which may be, once more; joins // carts in plain Lean: what they are worth; carts, the laws: fixed calls; carts: how the arguments of the laws read; THE ABSTRACT WALK, part 29: a run that stops ahead of the return; a new generation of an own slice that nobody names; a variable whose cells hold an own slice, as one object. Nothing here speaks of a program. -/
import Derived.Test.YtclcfjejpogdlaaGreatIB06
import Derived.Test.YtclcfjejpogdlaaGreatIB12
import Derived.Test.YtclcfjejpogdlaaGreatIB09
namespace Go.Proofs.YtclcfjejpogdlaaGreat.Ca
open Go Go.RowKit Go.Aw Go.Aw.Cart Go.Aw.Ord Go.Sort
set_option linter.unusedVariables false
set_option linter.unusedSimpArgs false
theorem ltE_ir (a : Ent) : ¬ ltE a a := by unfold ltE; omega
theorem ltE_tr (a b c : Ent) : ltE a b → ltE b c → ltE a c := by unfold ltE; omega
theorem ltE_as (a b : Ent) : ltE a b → ¬ ltE b a := by unfold ltE; omega
theorem ltE_nt (a b c : Ent) : ¬ ltE a b → ¬ ltE b c → ¬ ltE a c := by unfold ltE; omega
theorem ltE_tot (a b : Ent) (h : ¬ ltE a b) (k : ¬ ltE b a) : a = b := totE a b (by rw [ltE_of]; exact decide_eq_false h) (by rw [ltE_of]; exact decide_eq_false k)
theorem ltD_ir (a : Dot) : ¬ ltD a a := by unfold ltD; omega
theorem ltD_tr (a b c : Dot) : ltD a b → ltD b c → ltD a c := by unfold ltD; omega
theorem ltD_as (a b : Dot) : ltD a b → ¬ ltD b a := by unfold ltD; omega
theorem ltD_nt (a b c : Dot) : ¬ ltD a b → ¬ ltD b c → ¬ ltD a c := by unfold ltD; omega
theorem ltD_tot (a b : Dot) (h : ¬ ltD a b) (k : ¬ ltD b a) : a = b := totD a b (by rw [ltD_of]; exact decide_eq_false h) (by rw [ltD_of]; exact decide_eq_false k)
theorem sortE_perm (l : List Ent) : (sortE l).Perm l := List.mergeSort_perm ..
theorem sortD_perm (l : List Dot) : (sortD l).Perm l := List.mergeSort_perm ..
theorem sortE_up (l : List Ent) : upI ltE (sortE l) := by
  have h := List.pairwise_mergeSort (le := fun x y => !(ltOf ordE) y x) (fun a b c h k => ?_) (fun a b => ?_) l
  · refine List.Pairwise.imp (fun {a b} h => ?_) h
    simpa [ltE_of] using h
  · simp only [ltE_of, Bool.not_eq_true', decide_eq_false_iff_not] at h k ⊢
    exact ltE_nt _ _ _ k h
  · simp only [ltE_of, Bool.or_eq_true, Bool.not_eq_true', decide_eq_false_iff_not]
    by_cases k : ltE b a
    · exact .inr (ltE_as _ _ k)
    · exact .inl k
theorem sortD_up (l : List Dot) : upI ltD (sortD l) := by
  have h := List.pairwise_mergeSort (le := fun x y => !(ltOf cmpD) y x) (fun a b c h k => ?_) (fun a b => ?_) l
  · refine List.Pairwise.imp (fun {a b} h => ?_) h
    simpa [ltD_of] using h
  · simp only [ltD_of, Bool.not_eq_true', decide_eq_false_iff_not] at h k ⊢
    exact ltD_nt _ _ _ k h
  · simp only [ltD_of, Bool.or_eq_true, Bool.not_eq_true', decide_eq_false_iff_not]
    by_cases k : ltD b a
    · exact .inr (ltD_as _ _ k)
    · exact .inl k
theorem sortE_mem {l : List Ent} {e : Ent} : e ∈ sortE l ↔ e ∈ l := (sortE_perm l).mem_iff
/-- dots as a set: all of them, and rising -/
def setF (l : List Dot) : List Dot := comp (sortD (l.filter dotF))
theorem setF_up (l : List Dot) : (setF l).Pairwise ltD := comp_up (fun x y h => by
  by_cases k : ltD x y
  · exact .inr k
  · exact .inl (ltD_tot _ _ k h)) ltD_tr (sortD_up _)
theorem setF_len (l : List Dot) : (setF l).length ≤ l.length := Nat.le_trans (comp_len _) (by rw [sortD_len]; exact List.length_filter_le _ _)
theorem dotsOf_is (l : List Dot) : G.dotsOf l = (setF l).take 2000 := rfl
/-- as many as they are: no one twice -/
theorem setF_full {l : List Dot} (hd : ∀ d ∈ l, dotF d = true) : (setF l).length = l.length ↔ l.Nodup := by
  have e : l.filter dotF = l := List.filter_eq_self.2 hd
  rw [setF, e]
  constructor
  · intro h
    have h1 := comp_sub.eq_of_length (l₁ := comp (sortD l)) (by rw [h, sortD_len])
    have h2 := setF_up l
    rw [setF, e, h1] at h2
    refine (sortD_perm l).nodup_iff.1 (h2.imp fun {a b} k q => ?_)
    subst q; exact ltD_ir _ k
  · intro h
    rw [comp_id ((sortD_perm l).nodup_iff.2 h), sortD_len]
/-! which carts may be -/
theorem okTo_iff {v : List Int} {l : List Ent} : ∀ (n k : Nat), okTo v l k n = true ↔ ∀ i, k ≤ i → i < k + n → rowOk v l i = true
  | 0, k => ⟨fun _ i h1 h2 => by omega, fun _ => rfl⟩
  | n + 1, k => by
    rw [okTo, Bool.and_eq_true, okTo_iff n (k + 1)]
    refine ⟨fun h i h1 h2 => ?_, fun h => ⟨h k (by omega) (by omega), fun i h1 h2 => h i (by omega) (by omega)⟩⟩
    by_cases e : i = k
    · rw [e]; exact h.1
    · exact h.2 i (by omega) (by omega)
theorem has_dot {v : List Int} {d : Dot} (h : hasF v d = true) : dotF d = true := by
  unfold hasF at h; simp only [Bool.and_eq_true] at h; exact h.1
theorem row_ent {v : List Int} {l : List Ent} {i : Nat} (h : rowOk v l i = true) : entF (l.getD i default) = true ∧ hasF v (dotE (l.getD i default)) = true ∧ (0 < i → ltE (l.getD (i - 1) default) (l.getD i default)) := by
  unfold rowOk at h
  simp only [Bool.and_eq_true, Bool.or_eq_true, decide_eq_true_eq] at h
  exact ⟨h.1.1, h.1.2, fun k => ordE_lt.1 (h.2.resolve_left (by omega))⟩
theorem getD_mem {α : Type} [Inhabited α] {l : List α} {x : α} (h : x ∈ l) : ∃ i, i < l.length ∧ l.getD i default = x := by
  obtain ⟨i, hi, e⟩ := List.getElem_of_mem h
  exact ⟨i, hi, by rw [List.getD_eq_getElem?_getD, List.getElem?_eq_getElem hi]; exact e⟩
theorem live_set (l : List Ent) (h : l.length ≤ 2000) : liveF l = setF (l.map dotE) := by
  rw [liveF, dotsOf_is, List.take_of_length_le]
  exact Nat.le_trans (setF_len _) (by rw [List.length_map]; exact h)
theorem rightF_iff {v : List Int} {l : List Ent} : rightF v l = true ↔ l.length ≤ 400 ∧ (∀ i, i < l.length → rowOk v l i = true) ∧ (l.map dotE).Nodup := by
  unfold rightF
  simp only [Bool.and_eq_true, decide_eq_true_eq, okTo_iff]
  refine and_congr_right fun h4 => ?_
  constructor
  · rintro ⟨h1, h2⟩
    have h1' : ∀ i, i < l.length → rowOk v l i = true := fun i hi => h1 i (Nat.zero_le _) (by omega)
    refine ⟨h1', (setF_full fun d hd => ?_).1 (by rw [← live_set l (by omega), h2, List.length_map])⟩
    obtain ⟨e, he, rfl⟩ := List.mem_map.1 hd
    obtain ⟨i, hi, rfl⟩ := getD_mem he
    exact has_dot (row_ent (h1' i hi)).2.1
  · rintro ⟨h1, h2⟩
    refine ⟨fun i _ hi => h1 i (by omega), ?_⟩
    rw [live_set l (by omega), (setF_full fun d hd => ?_).2 h2, List.length_map]
    obtain ⟨e, he, rfl⟩ := List.mem_map.1 hd
    obtain ⟨i, hi, rfl⟩ := getD_mem he
    exact has_dot (row_ent (h1 i hi)).2.1
/-! values -/
end Go.Proofs.YtclcfjejpogdlaaGreat.Ca
namespace Go.Proofs.YtclcfjejpogdlaaGreat.Ca
open Go Go.RowKit Go.Aw Go.Aw.Cart Go.Aw.Ord Go.Sort
set_option linter.unusedVariables false
set_option linter.unusedSimpArgs false
theorem getD_at {α : Type} [Inhabited α] {l : List α} {i : Nat} (h : i < l.length) : l.getD i default = l[i] := by
  rw [List.getD_eq_getElem?_getD, List.getElem?_eq_getElem h]; rfl
theorem adj_up {l : List Ent} (h : ∀ i, 0 < i → i < l.length → ltE (l.getD (i - 1) default) (l.getD i default)) : l.Pairwise ltE := by
  have key : ∀ j, j < l.length → ∀ i, i < j → ltE (l.getD i default) (l.getD j default) := by
    intro j
    induction j with
    | zero => intro _ i hi; exact absurd hi (Nat.not_lt_zero _)
    | succ j ih =>
      intro hj i hi
      have h1 := h (j + 1) (Nat.succ_pos _) hj
      rw [Nat.add_sub_cancel] at h1
      by_cases e : i = j
      · rw [e]; exact h1
      · exact ltE_tr _ _ _ (ih (by omega) i (by omega)) h1
  refine List.pairwise_iff_getElem.2 fun i j hi hj hij => ?_
  have := key j hj i hij
  rwa [getD_at hi, getD_at hj] at this
theorem up_adj {l : List Ent} (h : l.Pairwise ltE) {i : Nat} (h0 : 0 < i) (hi : i < l.length) : ltE (l.getD (i - 1) default) (l.getD i default) := by
  have := List.pairwise_iff_getElem.1 h (i - 1) i (by omega) hi (by omega)
  rwa [getD_at hi, getD_at (show i - 1 < l.length by omega)]
/-- of things that are unlike, images are so just if no two have one -/
theorem nodup_map {α β : Type} {f : α → β} : ∀ {l : List α}, l.Nodup → ((l.map f).Nodup ↔ ∀ x ∈ l, ∀ y ∈ l, f x = f y → x = y)
  | [], _ => by simp
  | a :: l, h => by
    obtain ⟨h1, h2⟩ := List.nodup_cons.1 h
    rw [List.map_cons, List.nodup_cons, nodup_map h2]
    constructor
    · rintro ⟨k1, k2⟩ x hx y hy e
      rcases List.mem_cons.1 hx with q | q <;> rcases List.mem_cons.1 hy with r | r
      · rw [q, r]
      · exact absurd (List.mem_map.2 ⟨y, r, by rw [← e, q]⟩) k1
      · exact absurd (List.mem_map.2 ⟨x, q, by rw [e, r]⟩) k1
      · exact k2 x q y r e
    · intro k
      refine ⟨fun q => ?_, fun x hx y hy => k x (List.mem_cons_of_mem _ hx) y (List.mem_cons_of_mem _ hy)⟩
      obtain ⟨y, hy, e⟩ := List.mem_map.1 q
      rw [k y (List.mem_cons_of_mem _ hy) a List.mem_cons_self e] at hy
      exact h1 hy
theorem up_nodup {l : List Ent} (h : l.Pairwise ltE) : l.Nodup := h.imp fun {a b} k e => by subst e; exact ltE_ir _ k
/-- a cart that may be -/
structure Ok (v : List Int) (l : List Ent) : Prop where
  few : l.length ≤ 400
  up : l.Pairwise ltE
  ent : ∀ e ∈ l, entF e = true
  has : ∀ e ∈ l, hasF v (dotE e) = true
  one : ∀ e ∈ l, ∀ f ∈ l, dotE e = dotE f → e = f
theorem ok_iff {v : List Int} {l : List Ent} : rightF v l = true ↔ Ok v l := by
  rw [rightF_iff]
  constructor
  · rintro ⟨h1, h2, h3⟩
    have hu : l.Pairwise ltE := adj_up fun i h0 hi => (row_ent (h2 i hi)).2.2 h0
    refine ⟨h1, hu, fun e he => ?_, fun e he => ?_, (nodup_map (up_nodup hu)).1 h3⟩
    · obtain ⟨i, hi, rfl⟩ := getD_mem he; exact (row_ent (h2 i hi)).1
    · obtain ⟨i, hi, rfl⟩ := getD_mem he; exact (row_ent (h2 i hi)).2.1
  · intro h
    refine ⟨h.few, fun i hi => ?_, (nodup_map (up_nodup h.up)).2 h.one⟩
    have hm : l.getD i default ∈ l := by rw [getD_at hi]; exact List.getElem_mem _
    unfold rowOk
    simp only [Bool.and_eq_true, Bool.or_eq_true, decide_eq_true_eq]
    refine ⟨⟨h.ent _ hm, h.has _ hm⟩, ?_⟩
    by_cases h0 : i = 0
    · exact .inl h0
    · exact .inr (ordE_lt.2 (up_adj h.up (by omega) hi))
theorem Ok.upI {v : List Int} {l : List Ent} (h : Ok v l) : upI ltE l := h.up.imp fun {a b} k => ltE_as _ _ k
theorem sortE_sup {l : List Ent} (h : l.Nodup) : (sortE l).Pairwise ltE := by
  have h1 : (sortE l).Pairwise fun a b => a ≠ b := (sortE_perm l).nodup_iff.2 h
  refine List.Pairwise.imp (fun {a b} (k : ¬ ltE b a ∧ a ≠ b) => ?_) ((sortE_up l).and h1)
  by_cases q : ltE a b
  · exact q
  · exact absurd (ltE_tot _ _ q k.1) k.2
/-! joins -/
abbrev Crt := List Int × List Ent
def staysF (a b : Crt) (both : Bool) : List Ent := a.2.filter fun e => (both && decide (e ∈ b.2)) || !hasF b.1 (dotE e)
def clashF (a b : Crt) : Bool := a.2.any fun e => b.2.any fun f => decide (e ≠ f) && decide (dotE e = dotE f)
def maxV (a b : List Int) : List Int := List.zipWith (fun x y => if x < y then y else x) a b
def zeroV : List Int := [0, 0, 0, 0, 0, 0, 0, 0]
def bothF (a b : Crt) : List Ent := staysF a b true ++ staysF b a false
/-- the join of two carts, and the error -/
def twoF (a b : Crt) : Crt × Int :=
  if rightF a.1 a.2 = false ∨ rightF b.1 b.2 = false then ((zeroV, []), 3) else
  if clashF a b = true then ((zeroV, []), 14) else
  if 400 < (bothF a b).length then ((zeroV, []), 5) else
  ((maxV a.1 b.1, sortE (bothF a b)), 0)
theorem both_mem {a b : Crt} {e : Ent} : e ∈ bothF a b ↔ (e ∈ a.2 ∧ (e ∈ b.2 ∨ hasF b.1 (dotE e) = false)) ∨ (e ∈ b.2 ∧ hasF a.1 (dotE e) = false) := by
  unfold bothF staysF
  simp [List.mem_append, List.mem_filter]
theorem clash_of {a b : Crt} (h : ∀ e ∈ a.2, ∀ f ∈ b.2, dotE e = dotE f → e = f) : clashF a b = false := by
  unfold clashF
  rw [List.any_eq_false]
  intro e he
  rw [Bool.not_eq_true, List.any_eq_false]
  intro f hf
  simp only [Bool.not_eq_true, Bool.and_eq_false_iff, decide_eq_false_iff_not]
  by_cases k : dotE e = dotE f
  · exact .inl fun q => q (h e he f hf k)
  · exact .inr k
theorem maxV_len {a b : List Int} (ha : a.length = 8) (hb : b.length = 8) : (maxV a b).length = 8 := by simp [maxV, ha, hb]
theorem maxV_get {a b : List Int} (ha : a.length = 8) (hb : b.length = 8) {i : Nat} (hi : i < 8) : (maxV a b).getD i default = if a.getD i default < b.getD i default then b.getD i default else a.getD i default := by
  rw [getD_at (by rw [maxV_len ha hb]; exact hi), getD_at (by omega), getD_at (by omega)]
  simp [maxV]
theorem getF_max {a b : List Int} (ha : a.length = 8) (hb : b.length = 8) (n : Int) : getF (maxV a b) n = if getF a n < getF b n then getF b n else getF a n := by
  unfold getF
  by_cases h : 1 ≤ n ∧ n ≤ 8
  · rw [if_pos h, if_pos h, if_pos h, maxV_get ha hb (by omega)]
  · rw [if_neg h, if_neg h, if_neg h]; rfl
theorem has_max {a b : List Int} (ha : a.length = 8) (hb : b.length = 8) (d : Dot) : hasF (maxV a b) d = (hasF a d || hasF b d) := by
  unfold hasF
  rw [getF_max ha hb]
  cases dotF d with
  | false => rfl
  | true =>
    simp only [Bool.true_and]
    rw [Bool.eq_iff_iff, Bool.or_eq_true, decide_eq_true_eq, decide_eq_true_eq, decide_eq_true_eq]
    split <;> omega
/-- carts that have no dot in unlike entries: of them all the join is there -/
structure Two (a b : Crt) : Prop where
  la : a.1.length = 8
  lb : b.1.length = 8
  oa : Ok a.1 a.2
  ob : Ok b.1 b.2
  nc : ∀ e ∈ a.2, ∀ f ∈ b.2, dotE e = dotE f → e = f
  few : (bothF a b).length ≤ 400
theorem bothF_nodup {a b : Crt} (oa : Ok a.1 a.2) (ob : Ok b.1 b.2) : (bothF a b).Nodup := by
  unfold bothF
  refine List.nodup_append.2 ⟨(up_nodup oa.up).sublist List.filter_sublist, (up_nodup ob.up).sublist List.filter_sublist, fun x hx y hy e => ?_⟩
  subst e
  unfold staysF at hx hy
  have h1 := (List.mem_filter.1 hx).1
  have h2 := (List.mem_filter.1 hy).2
  rw [Bool.false_and, Bool.false_or, oa.has x h1] at h2
  exact absurd h2 (by simp)
theorem Two.is {a b : Crt} (h : Two a b) : twoF a b = ((maxV a.1 b.1, sortE (bothF a b)), 0) := by
  unfold twoF
  rw [ok_iff.2 h.oa, ok_iff.2 h.ob, if_neg (by simp), if_neg (by rw [clash_of h.nc]; simp), if_neg (by have := h.few; omega)]
theorem Two.mem {a b : Crt} (h : Two a b) {e : Ent} : e ∈ (twoF a b).1.2 ↔ (e ∈ a.2 ∧ (e ∈ b.2 ∨ hasF b.1 (dotE e) = false)) ∨ (e ∈ b.2 ∧ hasF a.1 (dotE e) = false) := by
  rw [h.is, sortE_mem, both_mem]
theorem Two.vec {a b : Crt} (h : Two a b) : (twoF a b).1.1 = maxV a.1 b.1 := by rw [h.is]
theorem Two.len {a b : Crt} (h : Two a b) : (twoF a b).1.1.length = 8 := by rw [h.vec]; exact maxV_len h.la h.lb
theorem Two.sub {a b : Crt} (h : Two a b) {e : Ent} (he : e ∈ (twoF a b).1.2) : e ∈ a.2 ∨ e ∈ b.2 := by
  rcases h.mem.1 he with k | k
  · exact .inl k.1
  · exact .inr k.1
theorem Two.ok {a b : Crt} (h : Two a b) : Ok (twoF a b).1.1 (twoF a b).1.2 := by
  have hs := @Two.sub a b h
  have hv := h.vec
  refine ⟨?_, ?_, fun e he => ?_, fun e he => ?_, fun e he f hf hd => ?_⟩
  · rw [h.is]; show (sortE _).length ≤ 400; rw [sortE_len]; exact h.few
  · rw [h.is]; exact sortE_sup (bothF_nodup h.oa h.ob)
  · exact (hs he).elim (h.oa.ent e) (h.ob.ent e)
  · rw [hv, has_max h.la h.lb, Bool.or_eq_true]
    exact (hs he).elim (fun k => .inl (h.oa.has e k)) (fun k => .inr (h.ob.has e k))
  · rcases hs he with k | k <;> rcases hs hf with q | q
    · exact h.oa.one e k f q hd
    · exact h.nc e k f q hd
    · exact (h.nc f q e k hd.symm).symm
    · exact h.ob.one e k f q hd
end Go.Proofs.YtclcfjejpogdlaaGreat.Ca
namespace Go.Proofs.YtclcfjejpogdlaaGreat.Ca
open Go Go.RowKit Go.Aw Go.Aw.Cart Go.Aw.Ord Go.Sort
set_option linter.unusedVariables false
set_option linter.unusedSimpArgs false
/-! the items, and their lines -/
/-! each entry counts for one item -/
/-! the order does not matter -/
end Go.Proofs.YtclcfjejpogdlaaGreat.Ca
namespace Go.Proofs.YtclcfjejpogdlaaGreat.Ca
open Go Go.RowKit Go.Aw Go.Aw.Cart Go.Aw.Ord Go.Sort
set_option linter.unusedVariables false
set_option linter.unusedSimpArgs false
set_option maxRecDepth 8000
set_option maxHeartbeats 4000000
theorem great_w (v : List Int) (l : List Ent) (ex : Bool) : PCall Tryz.prog 77 [cV v l ex] (.p (.b (decide (60 < (l.length : Int))))) := by
  refine pcall_of Tryz.func77 rfl (fun w0 F S0 M0 => ?_)
  repeat' (first | refine rnY ?_ | refine rnSQ ?_ | refine rnG ?_ | refine rnU ?_ | ((fail_if_success (refine rnKn ?_)); refine rnP ?_ ?_ <;> (intro hq; try (have hq' := hq; simp only [hqs] at hq'))) | refine rkY ?_ | refine rkSQ ?_ | refine rkF ?_ | refine rkU ?_ | ((fail_if_success (refine rkKn ?_)); refine rkP ?_ ?_ <;> (intro hq; try (have hq' := hq; simp only [hqs] at hq'))) | refine stp ?_ | refine aws_draws [] mixed (by kernel_rfl) ?_ | refine ifT ?_ | refine ifF ?_ | (refine ifQ ?_ ?_ <;> (try (intro hn))) | (refine ifB ?_ ?_ <;> (intro hq; try (have hq' := hq; simp only [hqs] at hq'))))
  exact rt1 rfl rfl finS_p rfl
instance {v : List Int} {l : List Ent} {ex : Bool} : PC Tryz.prog 77 [cV v l ex] True (.p (.b (decide (60 < (l.length : Int))))) := ⟨fun _ => great_w v l ex⟩
namespace A
end A
open A
end Go.Proofs.YtclcfjejpogdlaaGreat.Ca
namespace Go.Proofs.YtclcfjejpogdlaaGreat.Ca
open Go Go.RowKit Go.Aw Go.Aw.Cart
set_option linter.unusedVariables false
set_option linter.unusedSimpArgs false
theorem i64_of {n : Int} (h : IntKind.i64.min ≤ n ∧ n ≤ IntKind.i64.max) : -9223372036854775808 ≤ n ∧ n ≤ 9223372036854775807 := by
  simp only [IntKind.min, IntKind.max, IntKind.signed, IntKind.bits] at h
  simp at h; omega
theorem u64_of {n : Int} (h : IntKind.u64.min ≤ n ∧ n ≤ IntKind.u64.max) : 0 ≤ n ∧ n < 18446744073709551616 := by
  simp only [IntKind.min, IntKind.max, IntKind.signed, IntKind.bits] at h
  simp at h; omega
theorem rd_int : Reads Tryz.prog 3 Int (fun n => [PVal.k .i64 n]) (fun n => -9223372036854775808 ≤ n ∧ n ≤ 9223372036854775807) := (reads_int inferInstance).imp' id (fun _ _ => rfl) (fun _ h => i64_of h)
theorem rd_u64 : Reads Tryz.prog 93 Int (fun n => [PVal.k .u64 n]) (fun n => 0 ≤ n ∧ n < 18446744073709551616) := (reads_int inferInstance).imp' id (fun _ _ => rfl) (fun _ h => u64_of h)
def vRow (v : List Int) : List PVal := v.map fun n => PVal.k .u64 n
theorem rd_vec : Reads Tryz.prog 143 (List Int) vRow (fun v => v.length = 8 ∧ ∀ n ∈ v, 0 ≤ n ∧ n < 18446744073709551616) :=
  (reads_array (inferInstance : TI Tryz.prog 143 _ _ _) (inferInstance : TI Tryz.prog 93 _ _ _) rfl rd_u64).imp' id (fun l h => by
    clear h
    unfold vRow
    show List.map _ l = _
    induction l with
    | nil => rfl
    | cons b l ih => simp [ih]) (fun l h => h)
/-- an entry that Go can hold -/
def EB (e : Ent) : Prop := (-9223372036854775808 ≤ e.1 ∧ e.1 ≤ 9223372036854775807) ∧ (-9223372036854775808 ≤ e.2.1 ∧ e.2.1 ≤ 9223372036854775807) ∧ (0 ≤ e.2.2.1 ∧ e.2.2.1 < 18446744073709551616) ∧ (-9223372036854775808 ≤ e.2.2.2 ∧ e.2.2.2 ≤ 9223372036854775807)
theorem rd_ent : Reads Tryz.prog 289 Ent (fun e => eR e) EB :=
  (reads_struct (inferInstance : TI Tryz.prog 289 _ _ _)
    (readsFs_cons (inferInstance : TI Tryz.prog 3 _ _ _) rd_int (readsFs_cons (inferInstance : TI Tryz.prog 3 _ _ _) rd_int (readsFs_cons (inferInstance : TI Tryz.prog 93 _ _ _) rd_u64 (readsFs_cons (inferInstance : TI Tryz.prog 3 _ _ _) rd_int (readsFs_nil rfl)))))).imp
    (fun x => (x.1, x.2.1, x.2.2.1, x.2.2.2.1)) (fun x => rfl) (fun x h => ⟨h.1, h.2.1, h.2.2.1, h.2.2.2.1⟩)
theorem rd_ents : Reads Tryz.prog 144 (List Ent) (fun l => [.sl 4 (l.map fun e => eR e) false]) (fun l => l.length ≤ maxLen ∧ ∀ e ∈ l, EB e) :=
  reads_slice inferInstance inferInstance (by decide) rd_ent
/-- a cart that Go can hold -/
structure CIn (x : Crt) : Prop where
  v8 : x.1.length = 8
  vb : ∀ n ∈ x.1, 0 ≤ n ∧ n < 18446744073709551616
  len : x.2.length ≤ maxLen
  eb : ∀ e ∈ x.2, EB e
def cRow (x : Crt) : List PVal := vRow x.1 ++ [.sl 4 (x.2.map fun e => eR e) false]
theorem rd_cart : Reads Tryz.prog 146 Crt cRow CIn :=
  (reads_struct (inferInstance : TI Tryz.prog 146 _ _ _)
    (readsFs_cons (inferInstance : TI Tryz.prog 143 _ _ _) rd_vec (readsFs_cons (inferInstance : TI Tryz.prog 144 _ _ _) rd_ents (readsFs_nil rfl)))).imp
    (fun x => (x.1, x.2.1)) (fun x => by simp [cRow]) (fun x h => ⟨h.1.1, h.1.2, h.2.1.1, h.2.1.2⟩)
theorem CIn.qb {x : Crt} (h : CIn x) : ∀ e ∈ x.2, QB e := fun e he => (h.eb e he).2.2.2
end Go.Proofs.YtclcfjejpogdlaaGreat.Ca
namespace Go.Aw
open Go Go.RowKit
set_option linter.unusedVariables false
set_option linter.unusedSimpArgs false
/-- one step of the forms of code, but for a return -/
theorem stpR {X Y : Prop} (h : Y) (e : Y → X := by
    first | exact rn_nil | exact rk_nil | exact aws_seq | exact aws_region | exact aws_skip | exact aws_label | exact aws_goto | exact aws_exit | exact aws_nil | exact aws_blk_s | exact aws_blk_r | exact aws_blk_c | exact blk_exit | exact blk_normal | exact blk_ret | fail) : X := e h
/-- one generation more -/
theorem says_bump {C : Ctx} {σ : St} {o n ty es : Nat} {mo : Option MO} (hm : σ.mem o = (n, mo)) (hes : 0 < es) : Says C σ (σ.put o (n + 1, some (.buf ty es []))) := by
  rintro a w ⟨G, h⟩
  have hlen : (G.μ o).length = n := by have := h.gens o; rw [hm] at this; exact this
  exact ⟨_, h.upd (o := o) (n' := n + 1) (mo' := some (.buf ty es [])) (μo := G.μ o ++ [(none, 0)]) (fp' := []) (w' := w) (fun g x hx => by
    rw [List.getElem?_append_left (List.getElem?_eq_some_iff.1 hx).1]; exact hx) (by simp [hlen]) rfl .same rfl (Nat.le_refl _) (fun _ _ _ => rfl) (fun b hb => by simp at hb) (fun mo hmo => by
      obtain rfl := Option.some.inj hmo
      exact ⟨n, (none, 0), rfl, by simp [hlen], hes, by simp [maxLen], Nat.le_refl _, .inl ⟨rfl, rfl, rfl⟩⟩)⟩
/-- a variable, of whose cells one is an own slice, with that one's content -/
def pkA (ty : TypeId) (pre post : List PVal) (tyB : TypeId) (es : Nat) (rows : List (List PVal)) : AObj where
  holds X b fp := ∃ (m : Option Nat) (c : Nat) (f2 : List Nat) (u v : List Value), X.w.heap[b]? = some (.cells (u ++ .slice (m.map fun b => ⟨b, 0, none⟩) rows.length c :: v).toArray ty (0, 0)) ∧ fp = b :: f2 ∧ b ∉ f2 ∧
    All2 (fun p x => p.holds X x) pre u ∧ All2 (fun p x => p.holds X x) post v ∧ (MO.buf tyB es rows).holds Mu.none X (m, c) f2
  mono := by
    rintro x y b fp hle hf ⟨m, c, f2, u, v, h1, rfl, h3, h4, h5, h6⟩
    exact ⟨m, c, f2, u, v, (hf b (by simp)).trans h1, rfl, h3, h4.mono fun p _ k => p.mono hle k, h5.mono fun p _ k => p.mono hle k, h6.mono (Mu.le.refl _) hle fun k hk => hf k (by simp [hk])⟩
theorem all2_ac {μ : Mu} {X : Wd} {ps : List PVal} {vs : List Value} : All2 (AC.holds μ X) (ps.map .p) vs ↔ All2 (fun p x => p.holds X x) ps vs := by
  unfold All2
  simp only [List.length_map]
  refine and_congr Iff.rfl ⟨fun h i a b ha hb => ?_, fun h i a b ha hb => ?_⟩
  · exact h i (.p a) b (by rw [List.getElem?_map, ha]; rfl) hb
  · rw [List.getElem?_map] at ha
    cases hx : ps[i]? with
    | none => rw [hx] at ha; cases ha
    | some x => rw [hx] at ha; simp at ha; subst ha; exact h i x b hx hb
theorem All2.split_inv {α β : Type} {R : α → β → Prop} {l l' : List α} {m : List β} (h : All2 R (l ++ l') m) : ∃ u v, m = u ++ v ∧ All2 R l u ∧ All2 R l' v := by
  refine ⟨m.take l.length, m.drop l.length, (List.take_append_drop _ _).symm, ?_, ?_⟩
  · have := h.take l.length
    rwa [List.take_left] at this
  · have := h.drop l.length
    rwa [List.drop_left] at this
/-- both as one -/
theorem says_pack {C : Ctx} {σ : St} {p np ty o g n tyB es len : Nat} {pre post : List PVal} {cs : List AC} {rows : List (List PVal)} (hp : σ.mem p = (np, some (.box ty cs))) (hcs : cs = pre.map .p ++ .osl o g es 0 len :: post.map .p) (hm : σ.mem o = (n, some (.buf tyB es rows))) (hn : n = g + 1) (hl : len = rows.length) (hne : p ≠ o) :
    Says C σ ((σ.put o (n, none)).put p (np, some (.abs (pkA ty pre post tyB es rows)))) := by
  subst hn hl hcs
  rintro a w ⟨G, h⟩
  obtain ⟨gp, mp, e1, e2, b, arr, e3, e4, e5, e6⟩ := h.mem p _ _ hp
  obtain ⟨go, m, k1, k2, k3⟩ := h.mem o _ _ hm
  obtain rfl : g = go := by omega
  obtain ⟨u, v, rfl, q1, q2⟩ := e6.split_inv
  obtain ⟨x, v, rfl, q3, q4⟩ := q2.cons_inv
  obtain ⟨m', c, r1, r2, r3⟩ := q3
  rw [r1] at k2; obtain rfl := Option.some.inj k2
  simp only [Nat.zero_mul, Nat.sub_zero] at r3
  subst r3
  have hbo : b ∉ G.φ o := fun hb => h.apart p o b hne (by rw [e4]; simp) hb
  have hfp : ∀ {x k}, k ∈ (if x = p then b :: G.φ o else if x = o then [] else G.φ x) → (x = p ∧ (k ∈ G.φ p ∨ k ∈ G.φ o)) ∨ (x ≠ p ∧ x ≠ o ∧ k ∈ G.φ x) := fun {x k} hk => by
    by_cases hx : x = p
    · rw [if_pos hx] at hk
      refine .inl ⟨hx, ?_⟩
      rw [e4]
      simpa using hk
    · rw [if_neg hx] at hk
      by_cases hxo : x = o
      · rw [if_pos hxo] at hk; cases hk
      · rw [if_neg hxo] at hk; exact .inr ⟨hx, hxo, hk⟩
  refine ⟨⟨G.μ, G.S, fun x => if x = p then b :: G.φ o else if x = o then [] else G.φ x⟩, ?_⟩
  exact {
    size := h.size
    defers := fun d hd => by
      obtain ⟨b', rfl, h1, h2, h3, h4, h5⟩ := h.defers d hd
      refine ⟨b', rfl, h1, h2, h3, h4, fun x hx => ?_⟩
      rcases hfp hx with ⟨_, k | k⟩ | ⟨_, _, k⟩
      · exact h5 _ k
      · exact h5 _ k
      · exact h5 _ k
    dnod := h.dnod
    mle := h.mle
    env := h.env
    gens := fun x => by
      by_cases hx : x = p
      · subst hx; have := h.gens x; rw [hp] at this; simpa [St.put] using this
      · by_cases hxo : x = o
        · subst hxo; have := h.gens x; rw [hm] at this; simpa [St.put, hx] using this
        · simpa [St.put, hx, hxo] using h.gens x
    mem := fun x n mo hx => by
      by_cases hxp : x = p
      · subst hxp
        simp only [St.put, if_true, Prod.mk.injEq] at hx
        obtain ⟨rfl, hx⟩ := hx
        obtain rfl := Option.some.inj hx
        refine ⟨gp, mp, e1, e2, b, e3, ?_⟩
        refine ⟨m', c, G.φ o, u, v, e5, by simp, hbo, all2_ac.1 q1, all2_ac.1 q4, ?_⟩
        exact k3
      · by_cases hxo : x = o
        · subst hxo
          simp [St.put, hxp] at hx
        · simp only [St.put, hxp, hxo, if_false] at hx ⊢
          exact h.mem x n mo hx
    apart := fun x y b' hxy hbx hby => by
      rcases hfp hbx with ⟨rfl, k | k⟩ | ⟨k1, k2, k⟩ <;> rcases hfp hby with ⟨rfl, q | q⟩ | ⟨q1, q2, q⟩
      · exact hxy rfl
      · exact hxy rfl
      · exact h.apart _ _ b' hxy k q
      · exact hxy rfl
      · exact hxy rfl
      · exact h.apart _ _ b' (Ne.symm q2) k q
      · exact h.apart _ _ b' hxy k q
      · exact h.apart _ _ b' k2 k q
      · exact h.apart _ _ b' hxy k q
    stab := fun x b' hb => by
      rcases hfp hb with ⟨_, k | k⟩ | ⟨_, _, k⟩
      · exact h.stab _ b' k
      · exact h.stab _ b' k
      · exact h.stab _ b' k
    own := fun x b' hb => by
      rcases hfp hb with ⟨_, k | k⟩ | ⟨_, _, k⟩
      · exact h.own _ b' k
      · exact h.own _ b' k
      · exact h.own _ b' k
    sbd := h.sbd
    ssub := h.ssub
    fr := h.fr }
/-- one as both -/
theorem says_unpack {C : Ctx} {σ : St} {p np ty o n tyB es : Nat} {mo : Option MO} {pre post : List PVal} {cs : List AC} {rows : List (List PVal)} (hp : σ.mem p = (np, some (.abs (pkA ty pre post tyB es rows)))) (hm : σ.mem o = (n, mo)) (hcs : pre.map .p ++ .osl o n es 0 rows.length :: post.map .p = cs) (hne : p ≠ o) :
    Says C σ ((σ.put o (n + 1, some (.buf tyB es rows))).put p (np, some (.box ty cs))) := by
  subst hcs
  rintro a w ⟨G, h⟩
  obtain ⟨gp, mp, e1, e2, b, e3, m, c, f2, u, v, e4, e5, e6, e7, e8, e9⟩ := h.mem p _ _ hp
  have hlen : (G.μ o).length = n := by have := h.gens o; rw [hm] at this; exact this
  have hmu : G.μ.le (fun x => if x = o then G.μ o ++ [(m, c)] else G.μ x) := fun x g y hy => by
    by_cases hx : x = o
    · subst hx
      simp only [if_true]
      rw [List.getElem?_append_left (List.getElem?_eq_some_iff.1 hy).1]; exact hy
    · simpa [hx] using hy
  have hfp : ∀ {x k}, k ∈ (if x = o then f2 else if x = p then [b] else G.φ x) → k ∈ G.φ (if x = o then p else x) ∧ (x = o → k ∈ f2) ∧ (x = p → k = b) := fun {x k} hk => by
    by_cases hx : x = o
    · rw [if_pos hx] at hk
      subst hx
      refine ⟨by rw [if_pos rfl, e5]; simp [hk], fun _ => hk, fun e => absurd e.symm hne⟩
    · rw [if_neg hx] at hk
      rw [if_neg hx]
      by_cases hxp : x = p
      · rw [if_pos hxp] at hk
        subst hxp
        have : k = b := by simpa using hk
        exact ⟨by rw [e5, this]; simp, fun e => absurd e hx, fun _ => this⟩
      · rw [if_neg hxp] at hk
        exact ⟨hk, fun e => absurd e hx, fun e => absurd e hxp⟩
  refine ⟨⟨fun x => if x = o then G.μ o ++ [(m, c)] else G.μ x, G.S, fun x => if x = o then f2 else if x = p then [b] else G.φ x⟩, ?_⟩
  exact {
    size := h.size
    defers := fun d hd => by
      obtain ⟨b', rfl, h1, h2, h3, h4, h5⟩ := h.defers d hd
      exact ⟨b', rfl, h1, h2, h3, h4, fun x hx => h5 _ (hfp hx).1⟩
    dnod := h.dnod
    mle := h.mle.trans hmu
    env := fun t => (h.env t).mono hmu (Wd.le.refl _)
    gens := fun x => by
      by_cases hx : x = o
      · subst hx; simp [St.put, hne.symm, hlen]
      · by_cases hxp : x = p
        · subst hxp; have := h.gens x; rw [hp] at this; simpa [St.put, hx] using this
        · simpa [St.put, hx, hxp] using h.gens x
    mem := fun x n' mo' hx => by
      by_cases hxp : x = p
      · subst hxp
        simp only [St.put, if_true, Prod.mk.injEq] at hx
        obtain ⟨rfl, hx⟩ := hx
        obtain rfl := Option.some.inj hx
        refine ⟨gp, mp, e1, by simpa [hne] using e2, b, _, e3, by simp [hne], e4, ?_⟩
        refine (all2_ac.2 e7).append (.cons ?_ (all2_ac.2 e8))
        refine ⟨m, c, by simp [hlen], ?_, by simp⟩
        obtain ⟨_, _, hrl, _⟩ := e9
        simpa using hrl
      · by_cases hxo : x = o
        · subst hxo
          simp only [St.put, hxp, if_false, if_true, Prod.mk.injEq] at hx
          obtain ⟨rfl, hx⟩ := hx
          obtain rfl := Option.some.inj hx
          refine ⟨n, (m, c), rfl, by simp [hlen], ?_⟩
          simp only [if_true]
          exact e9
        · simp only [St.put, hxp, hxo, if_false] at hx
          obtain ⟨g, m2, hn, hm2, hh⟩ := h.mem x n' mo' hx
          refine ⟨g, m2, hn, by simpa [hxo] using hm2, ?_⟩
          simp only [hxo, hxp, if_false]
          exact hh.mono hmu (Wd.le.refl _) fun k hk => rfl
    apart := fun x y b' hxy hbx hby => by
      have h1 := hfp hbx
      have h2 := hfp hby
      by_cases hx : x = o <;> by_cases hy : y = o
      · exact hxy (hx.trans hy.symm)
      · by_cases hyp : y = p
        · have a1 := h1.2.1 hx
          have a2 := h2.2.2 hyp
          subst a2; exact e6 a1
        · have a1 := h1.1
          have a2 := h2.1
          rw [if_pos hx] at a1
          rw [if_neg hy] at a2
          exact h.apart p y b' (Ne.symm hyp) a1 a2
      · by_cases hxp : x = p
        · have a1 := h2.2.1 hy
          have a2 := h1.2.2 hxp
          subst a2; exact e6 a1
        · have a1 := h1.1
          have a2 := h2.1
          rw [if_neg hx] at a1
          rw [if_pos hy] at a2
          exact h.apart x p b' hxp a1 a2
      · have a1 := h1.1
        have a2 := h2.1
        rw [if_neg hx] at a1
        rw [if_neg hy] at a2
        exact h.apart x y b' hxy a1 a2
    stab := fun x b' hb => h.stab _ b' (hfp hb).1
    own := fun x b' hb => h.own _ b' (hfp hb).1
    sbd := h.sbd
    ssub := h.ssub
    fr := h.fr }
end Go.Aw
