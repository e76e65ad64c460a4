/- joins in plain Lean: a lattice -/
import Derived.Test.YtebjmleheiefdaaGreatCaQ
namespace Go.Proofs.YtebjmleheiefdaaGreat.Ca
open Go Go.RowKit Go.Aw Go.Aw.Cart Go.Aw.Ord Go.Sort
set_option linter.unusedVariables false
set_option linter.unusedSimpArgs false
theorem few_of {l m : List Ent} (h : l.Nodup) (hs : ∀ e ∈ l, e ∈ m) : l.length ≤ m.length := by
  induction l generalizing m with
  | nil => exact Nat.zero_le _
  | cons x l ih =>
    obtain ⟨h1, h2⟩ := List.nodup_cons.1 h
    have hx : x ∈ m := hs x List.mem_cons_self
    have := ih (m := m.erase x) h2 fun e he => (List.mem_erase_of_ne (fun q => h1 (by rw [← q]; exact he))).2 (hs e (List.mem_cons_of_mem _ he))
    rw [List.length_erase_of_mem hx] at this
    have hp := List.length_pos_of_mem hx
    rw [List.length_cons]; omega
theorem max_pos {a b : List Int} (ha : ∀ n ∈ a, 0 ≤ n) (hb : ∀ n ∈ b, 0 ≤ n) : ∀ n ∈ maxV a b, 0 ≤ n := by
  unfold maxV
  intro n hn
  obtain ⟨i, hi, e⟩ := List.getElem_of_mem hn
  rw [List.getElem_zipWith] at e
  rw [← e]
  split
  · exact hb _ (List.getElem_mem _)
  · exact ha _ (List.getElem_mem _)
/-- entries of which no two have one dot, not too many -/
structure Uni (U : List Ent) : Prop where
  one : ∀ e ∈ U, ∀ f ∈ U, dotE e = dotE f → e = f
  few : U.length ≤ 400
/-- a cart of such entries that may be -/
structure In (U : List Ent) (x : Crt) : Prop where
  v8 : x.1.length = 8
  pos : ∀ n ∈ x.1, 0 ≤ n
  ok : Ok x.1 x.2
  sub : ∀ e ∈ x.2, e ∈ U
section
variable {U : List Ent} (hU : Uni U)
include hU
theorem In.two {x y : Crt} (hx : In U x) (hy : In U y) : Two x y where
  la := hx.v8
  lb := hy.v8
  oa := hx.ok
  ob := hy.ok
  nc e he f hf := hU.one e (hx.sub e he) f (hy.sub f hf)
  few := Nat.le_trans (few_of (bothF_nodup hx.ok hy.ok) fun e he => by
    rcases both_mem.1 he with k | k
    · exact hx.sub e k.1
    · exact hy.sub e k.1) hU.few
theorem In.join {x y : Crt} (hx : In U x) (hy : In U y) : In U (twoF x y).1 where
  v8 := (hx.two hU hy).len
  pos := by
    rw [(hx.two hU hy).vec]
    exact max_pos hx.pos hy.pos
  ok := (hx.two hU hy).ok
  sub e he := ((hx.two hU hy).sub he).elim (hx.sub e) (hy.sub e)
theorem In.err {x y : Crt} (hx : In U x) (hy : In U y) : (twoF x y).2 = 0 := by rw [(hx.two hU hy).is]
omit hU in
theorem In.ext {x y : Crt} (hx : In U x) (hy : In U y) (h1 : x.1 = y.1) (h2 : ∀ e, e ∈ x.2 ↔ e ∈ y.2) : x = y := Prod.ext h1 (ent_ext hx.ok.up hy.ok.up h2)
theorem In.mem {x y : Crt} (hx : In U x) (hy : In U y) {e : Ent} : e ∈ (twoF x y).1.2 ↔ (e ∈ x.2 ∧ (e ∈ y.2 ∨ hasF y.1 (dotE e) = false)) ∨ (e ∈ y.2 ∧ hasF x.1 (dotE e) = false) := (hx.two hU hy).mem
theorem In.has {x y : Crt} (hx : In U x) (hy : In U y) (d : Dot) : hasF (twoF x y).1.1 d = (hasF x.1 d || hasF y.1 d) := by
  rw [(hx.two hU hy).vec, has_max hx.v8 hy.v8]
theorem join_comm {x y : Crt} (hx : In U x) (hy : In U y) : (twoF x y).1 = (twoF y x).1 := by
  refine (hx.join hU hy).ext (hy.join hU hx) (by rw [(hx.two hU hy).vec, (hy.two hU hx).vec, maxV_comm]) fun e => ?_
  rw [hx.mem hU hy, hy.mem hU hx]
  have h1 := hx.ok.has e
  have h2 := hy.ok.has e
  by_cases a : e ∈ x.2 <;> by_cases b : e ∈ y.2 <;> simp_all
theorem join_assoc {x y z : Crt} (hx : In U x) (hy : In U y) (hz : In U z) : (twoF (twoF x y).1 z).1 = (twoF x (twoF y z).1).1 := by
  have hxy := hx.join hU hy
  have hyz := hy.join hU hz
  refine (hxy.join hU hz).ext (hx.join hU hyz) (by rw [(hxy.two hU hz).vec, (hx.two hU hyz).vec, (hx.two hU hy).vec, (hy.two hU hz).vec, maxV_assoc hx.v8 hy.v8 hz.v8]) fun e => ?_
  rw [hxy.mem hU hz, hx.mem hU hyz, hx.mem hU hy, hy.mem hU hz, hx.has hU hy, hy.has hU hz]
  have h1 := hx.ok.has e
  have h2 := hy.ok.has e
  have h3 := hz.ok.has e
  by_cases a : e ∈ x.2 <;> by_cases b : e ∈ y.2 <;> by_cases c : e ∈ z.2 <;> cases p : hasF x.1 (dotE e) <;> cases q : hasF y.1 (dotE e) <;> cases r : hasF z.1 (dotE e) <;> simp_all
theorem join_self {x : Crt} (hx : In U x) : (twoF x x).1 = x := by
  refine (hx.join hU hx).ext hx (by rw [(hx.two hU hx).vec, maxV_self]) fun e => ?_
  rw [hx.mem hU hx]
  have h1 := hx.ok.has e
  by_cases a : e ∈ x.2 <;> simp_all
omit hU in
theorem has_zero (d : Dot) : hasF zeroV d = false := by
  unfold hasF
  cases h : dotF d with
  | false => rfl
  | true =>
    have hd := of_decide_eq_true h
    have : getF zeroV d.1 = 0 := by
      unfold getF
      split
      · rename_i k
        obtain ⟨n, hn, e⟩ : ∃ n : Nat, n < 8 ∧ (d.1 - 1).toNat = n := ⟨(d.1 - 1).toNat, by omega, rfl⟩
        rw [e]
        match n, hn with
        | 0, _ | 1, _ | 2, _ | 3, _ | 4, _ | 5, _ | 6, _ | 7, _ => rfl
      · rfl
    rw [this, Bool.true_and]
    exact decide_eq_false (by omega)
omit hU in
theorem In.zero : In U (zeroV, []) where
  v8 := rfl
  pos := by decide
  ok := ⟨by simp, List.Pairwise.nil, fun e (h : e ∈ []) => (by cases h), fun e (h : e ∈ []) => (by cases h), fun e (h : e ∈ []) => (by cases h)⟩
  sub e (h : e ∈ []) := by cases h
theorem join_zero {x : Crt} (hx : In U x) : (twoF (zeroV, []) x).1 = x := by
  have hz : In U (zeroV, []) := In.zero
  refine (hz.join hU hx).ext hx (by rw [(hz.two hU hx).vec]; exact maxV_zero hx.v8 hx.pos) fun e => ?_
  rw [hz.mem hU hx]
  simp [has_zero]
theorem all_two {a b : Crt} (ha : In U a) (hb : In U b) (l : List Crt) (hl : l = [a, b]) : allF l 2 = ((twoF a b).1, 0) := by
  subst hl
  have e1 : allF [a, b] 1 = (a, 0) := by
    show (if (0 : Int) = 0 then (if (twoF (zeroV, []) a).2 = 0 then twoF (zeroV, []) a else _) else _) = _
    have hz : In U (zeroV, []) := In.zero
    rw [if_pos rfl, if_pos (hz.err hU ha)]
    exact Prod.ext (join_zero hU ha) (hz.err hU ha)
  rw [show (2 : Nat) = 1 + 1 from rfl, allF, e1, if_pos rfl]
  show (if (twoF a b).2 = 0 then twoF a b else _) = _
  rw [if_pos (ha.err hU hb)]
  exact Prod.ext rfl (ha.err hU hb)
/-- any many carts, one behind the other -/
theorem all_step {l : List Crt} {i : Nat} {r : Crt} (h : allF l i = (r, 0)) (hr : In U r) (hx : In U (l.getD i default)) : allF l (i + 1) = ((twoF r (l.getD i default)).1, 0) := by
  rw [allF, h, if_pos rfl]
  show (if (twoF r (l.getD i default)).2 = 0 then twoF r (l.getD i default) else _) = _
  rw [if_pos (hr.err hU hx)]
  exact Prod.ext rfl (hr.err hU hx)
theorem all_1 {l : List Crt} {a : Crt} (ha : In U a) (h : l.getD 0 default = a) : allF l 1 = (a, 0) := by
  have := all_step hU (l := l) (i := 0) (r := (zeroV, [])) rfl In.zero (by rw [h]; exact ha)
  rw [h, join_zero hU ha] at this
  exact this
theorem all_3 {a b c : Crt} (ha : In U a) (hb : In U b) (hc : In U c) : allF [a, b, c] 3 = ((twoF (twoF a b).1 c).1, 0) := by
  have h1 := all_1 hU (l := [a, b, c]) ha rfl
  have h2 := all_step hU h1 ha hb
  exact all_step hU h2 (ha.join hU hb) hc
theorem all_4 {a b c d : Crt} (ha : In U a) (hb : In U b) (hc : In U c) (hd : In U d) : allF [a, b, c, d] 4 = ((twoF (twoF (twoF a b).1 c).1 d).1, 0) := by
  have h1 := all_1 hU (l := [a, b, c, d]) ha rfl
  have h2 := all_step hU h1 ha hb
  have h3 := all_step hU h2 (ha.join hU hb) hc
  exact all_step hU h3 ((ha.join hU hb).join hU hc) hd
theorem covers_of {x y : Crt} (hx : In U x) (hy : In U y) (h : (twoF x y).1 = x) : coversF x y = true := by
  unfold coversF
  rw [hx.err hU hy, h]; simp
/-- what was joined covers both -/
theorem join_left {x y : Crt} (hx : In U x) (hy : In U y) : (twoF (twoF x y).1 x).1 = (twoF x y).1 := by
  rw [join_comm hU (hx.join hU hy) hx, ← join_assoc hU hx hx hy, join_self hU hx]
theorem join_right {x y : Crt} (hx : In U x) (hy : In U y) : (twoF (twoF x y).1 y).1 = (twoF x y).1 := by
  rw [join_assoc hU hx hy hy, join_self hU hy]
end
end Go.Proofs.YtebjmleheiefdaaGreat.Ca
