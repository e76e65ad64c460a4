/- THE ABSTRACT WALK, part 29: a run that stops ahead of the return; a new generation of an own slice that nobody names; a variable whose cells hold an own slice, as one object. Nothing here speaks of a program.; wire in plain Lean: a number's bytes, and the number that bytes begin with; packs in plain Lean: readers of bytes, put one behind the other; packs in plain Lean: carts and lists as bytes, there and back -/
import Derived.Test.YtlaeldgebecppaaGreatPT09
import Derived.Test.YtlaeldgebecppaaGreatPT14
namespace Go.Aw
open Go Go.RowKit
set_option linter.unusedVariables false
set_option linter.unusedSimpArgs false
/-- one step of the forms of code, but for a return -/
theorem stpR {X Y : Prop} (h : Y) (e : Y → X := by
    first | exact rn_nil | exact rk_nil | exact aws_seq | exact aws_region | exact aws_skip | exact aws_label | exact aws_goto | exact aws_exit | exact aws_nil | exact aws_blk_s | exact aws_blk_r | exact aws_blk_c | exact blk_exit | exact blk_normal | exact blk_ret | fail) : X := e h
/-- one generation more -/
theorem says_bump {C : Ctx} {σ : St} {o n ty es : Nat} {mo : Option MO} (hm : σ.mem o = (n, mo)) (hes : 0 < es) : Says C σ (σ.put o (n + 1, some (.buf ty es []))) := by
  rintro a w ⟨G, h⟩
  have hlen : (G.μ o).length = n := by have := h.gens o; rw [hm] at this; exact this
  exact ⟨_, h.upd (o := o) (n' := n + 1) (mo' := some (.buf ty es [])) (μo := G.μ o ++ [(none, 0)]) (fp' := []) (w' := w) (fun g x hx => by
    rw [List.getElem?_append_left (List.getElem?_eq_some_iff.1 hx).1]; exact hx) (by simp [hlen]) rfl .same rfl (Nat.le_refl _) (fun _ _ _ => rfl) (fun b hb => by simp at hb) (fun mo hmo => by
      obtain rfl := Option.some.inj hmo
      exact ⟨n, (none, 0), rfl, by simp [hlen], hes, by simp [maxLen], Nat.le_refl _, .inl ⟨rfl, rfl, rfl⟩⟩)⟩
/-- a variable, of whose cells one is an own slice, with that one's content -/
def pkA (ty : TypeId) (pre post : List PVal) (tyB : TypeId) (es : Nat) (rows : List (List PVal)) : AObj where
  holds X b fp := ∃ (m : Option Nat) (c : Nat) (f2 : List Nat) (u v : List Value), X.w.heap[b]? = some (.cells (u ++ .slice (m.map fun b => ⟨b, 0, none⟩) rows.length c :: v).toArray ty (0, 0)) ∧ fp = b :: f2 ∧ b ∉ f2 ∧
    All2 (fun p x => p.holds X x) pre u ∧ All2 (fun p x => p.holds X x) post v ∧ (MO.buf tyB es rows).holds Mu.none X (m, c) f2
  mono := by
    rintro x y b fp hle hf ⟨m, c, f2, u, v, h1, rfl, h3, h4, h5, h6⟩
    exact ⟨m, c, f2, u, v, (hf b (by simp)).trans h1, rfl, h3, h4.mono fun p _ k => p.mono hle k, h5.mono fun p _ k => p.mono hle k, h6.mono (Mu.le.refl _) hle fun k hk => hf k (by simp [hk])⟩
theorem all2_ac {μ : Mu} {X : Wd} {ps : List PVal} {vs : List Value} : All2 (AC.holds μ X) (ps.map .p) vs ↔ All2 (fun p x => p.holds X x) ps vs := by
  unfold All2
  simp only [List.length_map]
  refine and_congr Iff.rfl ⟨fun h i a b ha hb => ?_, fun h i a b ha hb => ?_⟩
  · exact h i (.p a) b (by rw [List.getElem?_map, ha]; rfl) hb
  · rw [List.getElem?_map] at ha
    cases hx : ps[i]? with
    | none => rw [hx] at ha; cases ha
    | some x => rw [hx] at ha; simp at ha; subst ha; exact h i x b hx hb
theorem All2.split_inv {α β : Type} {R : α → β → Prop} {l l' : List α} {m : List β} (h : All2 R (l ++ l') m) : ∃ u v, m = u ++ v ∧ All2 R l u ∧ All2 R l' v := by
  refine ⟨m.take l.length, m.drop l.length, (List.take_append_drop _ _).symm, ?_, ?_⟩
  · have := h.take l.length
    rwa [List.take_left] at this
  · have := h.drop l.length
    rwa [List.drop_left] at this
/-- both as one -/
theorem says_pack {C : Ctx} {σ : St} {p np ty o g n tyB es len : Nat} {pre post : List PVal} {cs : List AC} {rows : List (List PVal)} (hp : σ.mem p = (np, some (.box ty cs))) (hcs : cs = pre.map .p ++ .osl o g es 0 len :: post.map .p) (hm : σ.mem o = (n, some (.buf tyB es rows))) (hn : n = g + 1) (hl : len = rows.length) (hne : p ≠ o) :
    Says C σ ((σ.put o (n, none)).put p (np, some (.abs (pkA ty pre post tyB es rows)))) := by
  subst hn hl hcs
  rintro a w ⟨G, h⟩
  obtain ⟨gp, mp, e1, e2, b, arr, e3, e4, e5, e6⟩ := h.mem p _ _ hp
  obtain ⟨go, m, k1, k2, k3⟩ := h.mem o _ _ hm
  obtain rfl : g = go := by omega
  obtain ⟨u, v, rfl, q1, q2⟩ := e6.split_inv
  obtain ⟨x, v, rfl, q3, q4⟩ := q2.cons_inv
  obtain ⟨m', c, r1, r2, r3⟩ := q3
  rw [r1] at k2; obtain rfl := Option.some.inj k2
  simp only [Nat.zero_mul, Nat.sub_zero] at r3
  subst r3
  have hbo : b ∉ G.φ o := fun hb => h.apart p o b hne (by rw [e4]; simp) hb
  have hfp : ∀ {x k}, k ∈ (if x = p then b :: G.φ o else if x = o then [] else G.φ x) → (x = p ∧ (k ∈ G.φ p ∨ k ∈ G.φ o)) ∨ (x ≠ p ∧ x ≠ o ∧ k ∈ G.φ x) := fun {x k} hk => by
    by_cases hx : x = p
    · rw [if_pos hx] at hk
      refine .inl ⟨hx, ?_⟩
      rw [e4]
      simpa using hk
    · rw [if_neg hx] at hk
      by_cases hxo : x = o
      · rw [if_pos hxo] at hk; cases hk
      · rw [if_neg hxo] at hk; exact .inr ⟨hx, hxo, hk⟩
  refine ⟨⟨G.μ, G.S, fun x => if x = p then b :: G.φ o else if x = o then [] else G.φ x⟩, ?_⟩
  exact {
    size := h.size
    defers := fun d hd => by
      obtain ⟨b', rfl, h1, h2, h3, h4, h5⟩ := h.defers d hd
      refine ⟨b', rfl, h1, h2, h3, h4, fun x hx => ?_⟩
      rcases hfp hx with ⟨_, k | k⟩ | ⟨_, _, k⟩
      · exact h5 _ k
      · exact h5 _ k
      · exact h5 _ k
    dnod := h.dnod
    mle := h.mle
    env := h.env
    gens := fun x => by
      by_cases hx : x = p
      · subst hx; have := h.gens x; rw [hp] at this; simpa [St.put] using this
      · by_cases hxo : x = o
        · subst hxo; have := h.gens x; rw [hm] at this; simpa [St.put, hx] using this
        · simpa [St.put, hx, hxo] using h.gens x
    mem := fun x n mo hx => by
      by_cases hxp : x = p
      · subst hxp
        simp only [St.put, if_true, Prod.mk.injEq] at hx
        obtain ⟨rfl, hx⟩ := hx
        obtain rfl := Option.some.inj hx
        refine ⟨gp, mp, e1, e2, b, e3, ?_⟩
        refine ⟨m', c, G.φ o, u, v, e5, by simp, hbo, all2_ac.1 q1, all2_ac.1 q4, ?_⟩
        exact k3
      · by_cases hxo : x = o
        · subst hxo
          simp [St.put, hxp] at hx
        · simp only [St.put, hxp, hxo, if_false] at hx ⊢
          exact h.mem x n mo hx
    apart := fun x y b' hxy hbx hby => by
      rcases hfp hbx with ⟨rfl, k | k⟩ | ⟨k1, k2, k⟩ <;> rcases hfp hby with ⟨rfl, q | q⟩ | ⟨q1, q2, q⟩
      · exact hxy rfl
      · exact hxy rfl
      · exact h.apart _ _ b' hxy k q
      · exact hxy rfl
      · exact hxy rfl
      · exact h.apart _ _ b' (Ne.symm q2) k q
      · exact h.apart _ _ b' hxy k q
      · exact h.apart _ _ b' k2 k q
      · exact h.apart _ _ b' hxy k q
    stab := fun x b' hb => by
      rcases hfp hb with ⟨_, k | k⟩ | ⟨_, _, k⟩
      · exact h.stab _ b' k
      · exact h.stab _ b' k
      · exact h.stab _ b' k
    own := fun x b' hb => by
      rcases hfp hb with ⟨_, k | k⟩ | ⟨_, _, k⟩
      · exact h.own _ b' k
      · exact h.own _ b' k
      · exact h.own _ b' k
    sbd := h.sbd
    ssub := h.ssub
    fr := h.fr }
/-- one as both -/
theorem says_unpack {C : Ctx} {σ : St} {p np ty o n tyB es : Nat} {mo : Option MO} {pre post : List PVal} {cs : List AC} {rows : List (List PVal)} (hp : σ.mem p = (np, some (.abs (pkA ty pre post tyB es rows)))) (hm : σ.mem o = (n, mo)) (hcs : pre.map .p ++ .osl o n es 0 rows.length :: post.map .p = cs) (hne : p ≠ o) :
    Says C σ ((σ.put o (n + 1, some (.buf tyB es rows))).put p (np, some (.box ty cs))) := by
  subst hcs
  rintro a w ⟨G, h⟩
  obtain ⟨gp, mp, e1, e2, b, e3, m, c, f2, u, v, e4, e5, e6, e7, e8, e9⟩ := h.mem p _ _ hp
  have hlen : (G.μ o).length = n := by have := h.gens o; rw [hm] at this; exact this
  have hmu : G.μ.le (fun x => if x = o then G.μ o ++ [(m, c)] else G.μ x) := fun x g y hy => by
    by_cases hx : x = o
    · subst hx
      simp only [if_true]
      rw [List.getElem?_append_left (List.getElem?_eq_some_iff.1 hy).1]; exact hy
    · simpa [hx] using hy
  have hfp : ∀ {x k}, k ∈ (if x = o then f2 else if x = p then [b] else G.φ x) → k ∈ G.φ (if x = o then p else x) ∧ (x = o → k ∈ f2) ∧ (x = p → k = b) := fun {x k} hk => by
    by_cases hx : x = o
    · rw [if_pos hx] at hk
      subst hx
      refine ⟨by rw [if_pos rfl, e5]; simp [hk], fun _ => hk, fun e => absurd e.symm hne⟩
    · rw [if_neg hx] at hk
      rw [if_neg hx]
      by_cases hxp : x = p
      · rw [if_pos hxp] at hk
        subst hxp
        have : k = b := by simpa using hk
        exact ⟨by rw [e5, this]; simp, fun e => absurd e hx, fun _ => this⟩
      · rw [if_neg hxp] at hk
        exact ⟨hk, fun e => absurd e hx, fun e => absurd e hxp⟩
  refine ⟨⟨fun x => if x = o then G.μ o ++ [(m, c)] else G.μ x, G.S, fun x => if x = o then f2 else if x = p then [b] else G.φ x⟩, ?_⟩
  exact {
    size := h.size
    defers := fun d hd => by
      obtain ⟨b', rfl, h1, h2, h3, h4, h5⟩ := h.defers d hd
      exact ⟨b', rfl, h1, h2, h3, h4, fun x hx => h5 _ (hfp hx).1⟩
    dnod := h.dnod
    mle := h.mle.trans hmu
    env := fun t => (h.env t).mono hmu (Wd.le.refl _)
    gens := fun x => by
      by_cases hx : x = o
      · subst hx; simp [St.put, hne.symm, hlen]
      · by_cases hxp : x = p
        · subst hxp; have := h.gens x; rw [hp] at this; simpa [St.put, hx] using this
        · simpa [St.put, hx, hxp] using h.gens x
    mem := fun x n' mo' hx => by
      by_cases hxp : x = p
      · subst hxp
        simp only [St.put, if_true, Prod.mk.injEq] at hx
        obtain ⟨rfl, hx⟩ := hx
        obtain rfl := Option.some.inj hx
        refine ⟨gp, mp, e1, by simpa [hne] using e2, b, _, e3, by simp [hne], e4, ?_⟩
        refine (all2_ac.2 e7).append (.cons ?_ (all2_ac.2 e8))
        refine ⟨m, c, by simp [hlen], ?_, by simp⟩
        obtain ⟨_, _, hrl, _⟩ := e9
        simpa using hrl
      · by_cases hxo : x = o
        · subst hxo
          simp only [St.put, hxp, if_false, if_true, Prod.mk.injEq] at hx
          obtain ⟨rfl, hx⟩ := hx
          obtain rfl := Option.some.inj hx
          refine ⟨n, (m, c), rfl, by simp [hlen], ?_⟩
          simp only [if_true]
          exact e9
        · simp only [St.put, hxp, hxo, if_false] at hx
          obtain ⟨g, m2, hn, hm2, hh⟩ := h.mem x n' mo' hx
          refine ⟨g, m2, hn, by simpa [hxo] using hm2, ?_⟩
          simp only [hxo, hxp, if_false]
          exact hh.mono hmu (Wd.le.refl _) fun k hk => rfl
    apart := fun x y b' hxy hbx hby => by
      have h1 := hfp hbx
      have h2 := hfp hby
      by_cases hx : x = o <;> by_cases hy : y = o
      · exact hxy (hx.trans hy.symm)
      · by_cases hyp : y = p
        · have a1 := h1.2.1 hx
          have a2 := h2.2.2 hyp
          subst a2; exact e6 a1
        · have a1 := h1.1
          have a2 := h2.1
          rw [if_pos hx] at a1
          rw [if_neg hy] at a2
          exact h.apart p y b' (Ne.symm hyp) a1 a2
      · by_cases hxp : x = p
        · have a1 := h2.2.1 hy
          have a2 := h1.2.2 hxp
          subst a2; exact e6 a1
        · have a1 := h1.1
          have a2 := h2.1
          rw [if_neg hx] at a1
          rw [if_pos hy] at a2
          exact h.apart x p b' hxp a1 a2
      · have a1 := h1.1
        have a2 := h2.1
        rw [if_neg hx] at a1
        rw [if_neg hy] at a2
        exact h.apart x y b' hxy a1 a2
    stab := fun x b' hb => h.stab _ b' (hfp hb).1
    own := fun x b' hb => h.own _ b' (hfp hb).1
    sbd := h.sbd
    ssub := h.ssub
    fr := h.fr }
end Go.Aw
namespace Go.Proofs.YtlaeldgebecppaaGreat.Wi
open Go Go.RowKit Go.Aw
set_option linter.unusedVariables false
set_option linter.unusedSimpArgs false
/-- a number's bytes, the greatest ahead; at most so many -/
def beF : Nat → Nat → List Nat
  | 0, _ => []
  | f + 1, x => if x = 0 then [] else beF f (x / 256) ++ [x % 256]
def be (x : Nat) : List Nat := beF 8 x
def numB (x : Nat) : List Nat := (be x).length :: be x
theorem beF_zero : ∀ f, beF f 0 = []
  | 0 => rfl
  | _ + 1 => rfl
theorem beF_le : ∀ f x, (beF f x).length ≤ f
  | 0, _ => Nat.le_refl _
  | f + 1, x => by
    rw [beF]
    split
    · exact Nat.zero_le _
    · have := beF_le f (x / 256)
      rw [List.length_append, List.length_singleton]; omega
theorem beF_byte : ∀ f x, ∀ b ∈ beF f x, b < 256
  | 0, _ => fun b h => by cases h
  | f + 1, x => fun b h => by
    rw [beF] at h
    split at h
    · cases h
    · rcases List.mem_append.1 h with k | k
      · exact beF_byte f _ b k
      · rw [List.mem_singleton.1 k]; exact Nat.mod_lt _ (by decide)
theorem beF_step {f x : Nat} (h : x ≠ 0) : (beF (f + 1) x).length = (beF f (x / 256)).length + 1 := by
  rw [beF, if_neg h, List.length_append, List.length_singleton]
theorem beF_get : ∀ (f x j : Nat), j < (beF f x).length → (beF f x).getD j default = x / 256 ^ ((beF f x).length - 1 - j) % 256
  | 0, x, j, h => by exact absurd h (Nat.not_lt_zero _)
  | f + 1, x, j, h => by
    by_cases hx : x = 0
    · subst hx; rw [beF_zero] at h; exact absurd h (Nat.not_lt_zero _)
    · have hl := beF_step (f := f) hx
      have ih := beF_get f (x / 256) j
      rw [hl]
      rw [beF, if_neg hx] at h ⊢
      rw [List.length_append, List.length_singleton] at h
      by_cases hj : j < (beF f (x / 256)).length
      · rw [List.getD_eq_getElem?_getD, List.getElem?_append_left hj, ← List.getD_eq_getElem?_getD, ih hj, Nat.div_div_eq_div_mul]
        congr 2
        rw [show (beF f (x / 256)).length + 1 - 1 - j = ((beF f (x / 256)).length - 1 - j) + 1 by omega, Nat.pow_succ, Nat.mul_comm]
      · obtain rfl : j = (beF f (x / 256)).length := by omega
        rw [List.getD_eq_getElem?_getD, List.getElem?_append_right (Nat.le_refl _), Nat.sub_self, show (beF f (x / 256)).length + 1 - 1 - (beF f (x / 256)).length = 0 by omega]
        simp
theorem be_take {x j : Nat} (h : j < (be x).length) : (be x).take (j + 1) = (be x).take j ++ [x / 256 ^ ((be x).length - 1 - j) % 256] := by
  show (beF 8 x).take (j + 1) = (beF 8 x).take j ++ [x / 256 ^ ((beF 8 x).length - 1 - j) % 256]
  have h' : j < (beF 8 x).length := h
  rw [← beF_get 8 x j h', List.take_succ_eq_append_getElem h', List.getD_eq_getElem?_getD, List.getElem?_eq_getElem h']; rfl
theorem pow8 (i : Nat) : 2 ^ (8 * i) = 256 ^ i := by rw [Nat.pow_mul]
/-! what bytes say -/
/-- the bytes that are left, and the fault -/
abbrev RS := List Nat × Int
def takeS (n : Nat) (r : RS) : List Nat × RS := if r.2 ≠ 0 then ([], r) else if r.1.length < n then ([], (r.1, 8)) else (r.1.take n, (r.1.drop n, 0))
def mustS (is : Bool) (r : RS) : RS := if r.2 = 0 ∧ is = false then (r.1, 3) else r
def valB (l : List Nat) : Nat := l.foldl (fun n c => n * 256 + c) 0
/-- the number that stands here -/
def numR1 (r : RS) : RS := mustS (decide ((((takeS 1 r).1.getD (0 : Int).toNat default : Nat) : Int) ≤ 8)) (takeS 1 r).2
def numL (r : RS) : List Nat × RS := takeS ((takeS 1 r).1.getD (0 : Int).toNat default) (numR1 r)
def numR2 (r : RS) : RS := mustS (if (numL r).1.length = 0 then true else decide (0 < (((numL r).1.getD (0 : Int).toNat default : Nat) : Int))) (numL r).2
def numS (r : RS) : Nat × RS := if (takeS 1 r).1.length = 0 then (0, (takeS 1 r).2) else (if (numR2 r).2 = 0 then valB (numL r).1 else 0, numR2 r)
def smallS (most : Int) (r : RS) : Int × RS :=
  (if (mustS (decide (0 ≤ most) && decide (((numS r).1 : Int) ≤ most)) (numS r).2).2 = 0 then ((numS r).1 : Int) else 0, mustS (decide (0 ≤ most) && decide (((numS r).1 : Int) ≤ most)) (numS r).2)
/-- one byte more, as the machine does it -/
theorem byte_in {a c M : Nat} (ha : a * 256 + c < M) (hc : c < 256) : ((a * 256) % M % M ||| c % M % M) = a * 256 + c := by
  have h1 : c < M := by omega
  have h2 : a * 256 < M := Nat.lt_of_le_of_lt (Nat.le_add_right _ c) ha
  rw [Nat.mod_eq_of_lt h1, Nat.mod_eq_of_lt h1, Nat.mod_eq_of_lt h2, Nat.mod_eq_of_lt h2]
  have := Nat.shiftLeft_add_eq_or_of_lt (i := 8) (show c < 2 ^ 8 from hc) a
  rw [Nat.shiftLeft_eq] at this
  exact this.symm
end Go.Proofs.YtlaeldgebecppaaGreat.Wi
namespace Go.Proofs.YtlaeldgebecppaaGreat.Wi
open Go Go.RowKit Go.Aw Go.Aw.Cart Go.Proofs.YtlaeldgebecppaaGreat.Ca
set_option linter.unusedVariables false
set_option linter.unusedSimpArgs false
/-- a reader: a fault stays, what it reads does not hang on what stands behind, and what is left is the end of what was there -/
structure Par {α : Type} (P : RS → α × RS) : Prop where
  bad : ∀ r, r.2 ≠ 0 → (P r).2 = r
  ext : ∀ l y rest q, P (l, 0) = (y, (rest, 0)) → P (l ++ q, 0) = (y, (rest ++ q, 0))
  suf : ∀ r, (P r).2.1 <:+ r.1
theorem Par.byte {α : Type} {P : RS → α × RS} (h : Par P) {r : RS} (hb : ∀ b ∈ r.1, b < 256) : ∀ b ∈ (P r).2.1, b < 256 := fun b k => hb b ((h.suf r).subset k)
theorem Par.len {α : Type} {P : RS → α × RS} (h : Par P) (r : RS) : (P r).2.1.length ≤ r.1.length := (h.suf r).length_le
def bindS {α β : Type} (P : RS → α × RS) (Q : α → RS → β × RS) (r : RS) : β × RS := Q (P r).1 (P r).2
def pureS {α : Type} (a : α) (r : RS) : α × RS := (a, r)
def mustU (b : Bool) (r : RS) : Unit × RS := ((), mustS b r)
def okS {α : Type} (a z : α) (r : RS) : α × RS := (if r.2 = 0 then a else z, r)
/-- whole numbers -/
def zig (n : Int) : Nat := if 0 ≤ n then (2 * n).toNat else (2 * (-n - 1) + 1).toNat
def unz (m : Nat) : Int := if m % 2 = 1 then -((m / 2 : Nat) : Int) - 1 else ((m / 2 : Nat) : Int)
def zOk (m : Nat) : Bool := if m % 2 = 0 then decide (m / 2 ≤ 4611686018427387904) else decide (m / 2 < 4611686018427387904)
def intB (n : Int) : List Nat := numB (zig n)
def intS : RS → Int × RS := bindS numS fun m => bindS (mustU (zOk m)) fun _ => okS (unz m) 0
/-- texts -/
def textB (b : List Nat) : List Nat := numB b.length ++ b
/-- so many, all -/
def allS {α : Type} (P : RS → α × RS) : Nat → RS → List α × RS
  | 0 => pureS []
  | k + 1 => bindS (allS P k) fun l => bindS P fun a => pureS (l ++ [a])
/-- so many, up to a fault -/
def manyS {α : Type} (P : RS → α × RS) : Nat → RS → List α × RS
  | 0, r => ([], r)
  | k + 1, r => if (manyS P k r).2.2 = 0 then ((manyS P k r).1 ++ [(P (manyS P k r).2).1], (P (manyS P k r).2).2) else manyS P k r
/-! back -/
end Go.Proofs.YtlaeldgebecppaaGreat.Wi
namespace Go.Proofs.YtlaeldgebecppaaGreat.Wi
open Go Go.RowKit Go.Aw Go.Aw.Cart Go.Proofs.YtlaeldgebecppaaGreat.Ca
set_option linter.unusedVariables false
set_option linter.unusedSimpArgs false
def numI (n : Int) : List Nat := numB n.toNat
def vecB (v : List Int) : List Nat := v.flatMap numI
def entB (e : Ent) : List Nat := numI e.1 ++ (numI e.2.1 ++ (numI e.2.2.1 ++ intB e.2.2.2))
def cartB (c : Crt) : List Nat := vecB c.1 ++ (numB c.2.length ++ c.2.flatMap entB)
/-- one number, as a whole one -/
def numZ : RS → Int × RS := bindS numS fun n => pureS (n : Int)
def vecS : RS → List Int × RS := bindS (allS numZ 8) fun v => okS v zeroV
def entS : RS → Ent × RS := bindS (smallS 60) fun a => bindS (smallS 8) fun b => bindS numZ fun c => bindS intS fun d => pureS (a, b, c, d)
def cartS : RS → Crt × RS := bindS vecS fun v => bindS (smallS 400) fun n => bindS (manyS entS n.toNat) fun l => bindS (mustU (rightF v l)) fun _ => okS (v, l) (zeroV, [])
def vecOk (v : List Int) : Prop := v.length = 8 ∧ ∀ n ∈ v, 0 ≤ n ∧ n < 18446744073709551616
def entOk (e : Ent) : Prop := (0 ≤ e.1 ∧ e.1 ≤ 60) ∧ (0 ≤ e.2.1 ∧ e.2.1 ≤ 8) ∧ (0 ≤ e.2.2.1 ∧ e.2.2.1 < 18446744073709551616) ∧ (-1000 ≤ e.2.2.2 ∧ e.2.2.2 ≤ 1000)
theorem get_fit {v : List Int} (h : ∀ n ∈ v, 0 ≤ n ∧ n < 18446744073709551616) (i : Int) : getF v i < 18446744073709551616 := by
  unfold getF
  split
  · rcases Nat.lt_or_ge (i - 1).toNat v.length with hj | hj
    · have e : v.getD (i - 1).toNat default = v[(i - 1).toNat] := getD_at hj
      first | (rw [e]; exact (h _ (List.getElem_mem _)).2) | omega
    · rw [List.getD_eq_getElem?_getD, List.getElem?_eq_none hj]; decide
  · decide
theorem ok_ents {c : Crt} (hr : rightF c.1 c.2 = true) (hv : vecOk c.1) : ∀ e ∈ c.2, entOk e := by
  intro e he
  have ho := ok_iff.1 hr
  have h1 := ho.ent e he
  have h2 := ho.has e he
  unfold entF at h1
  unfold hasF dotF at h2
  have h1 := of_decide_eq_true h1
  rw [Bool.and_eq_true, decide_eq_true_eq, decide_eq_true_eq] at h2
  obtain ⟨⟨b1, b2, b3⟩, b4⟩ := h2
  have b1 : 1 ≤ e.2.1 := b1
  have b2 : e.2.1 ≤ 8 := b2
  have b3 : 0 < e.2.2.1 := b3
  have b4 : e.2.2.1 ≤ getF c.1 e.2.1 := b4
  have := get_fit hv.2 e.2.1
  unfold entOk
  omega
/-! lists -/
abbrev Kd := List Nat × Crt
/-- is a text ahead of another one, as bytes? -/
def bLt : List Nat → List Nat → Bool
  | [], [] => false
  | [], _ :: _ => true
  | _ :: _, [] => false
  | a :: l, b :: m => if a = b then bLt l m else decide (a < b)
def kdB (k : Kd) : List Nat := textB k.1 ++ cartB k.2
def listB (l : List Kd) : List Nat := numB l.length ++ l.flatMap kdB
def kdOk (l : List Kd) (i : Nat) : Bool := decide ((l.getD i default).1.length ≤ 20) && ((decide (i = 0) || bLt (l.getD (i - 1) default).1 (l.getD i default).1) && rightF (l.getD i default).2.1 (l.getD i default).2.2)
/-- which lists may be -/
def keysF (l : List Kd) : Bool := decide (l.length ≤ 2000 ∧ ∀ i, i < l.length → kdOk l i = true)
end Go.Proofs.YtlaeldgebecppaaGreat.Wi
