/- carts: how the arguments of the laws read; THE ABSTRACT WALK, part 29: a run that stops ahead of the return; a new generation of an own slice that nobody names; a variable whose cells hold an own slice, as one object. Nothing here speaks of a program.; wire in plain Lean: a number's bytes, and the number that bytes begin with -/
import Derived.Test.YtclcfjejpogdlaaGreatPP13
import Derived.Test.YtclcfjejpogdlaaGreatPP09
namespace Go.Proofs.YtclcfjejpogdlaaGreat.Ca
open Go Go.RowKit Go.Aw Go.Aw.Cart
set_option linter.unusedVariables false
set_option linter.unusedSimpArgs false
theorem i64_of {n : Int} (h : IntKind.i64.min ≤ n ∧ n ≤ IntKind.i64.max) : -9223372036854775808 ≤ n ∧ n ≤ 9223372036854775807 := by
  simp only [IntKind.min, IntKind.max, IntKind.signed, IntKind.bits] at h
  simp at h; omega
theorem u64_of {n : Int} (h : IntKind.u64.min ≤ n ∧ n ≤ IntKind.u64.max) : 0 ≤ n ∧ n < 18446744073709551616 := by
  simp only [IntKind.min, IntKind.max, IntKind.signed, IntKind.bits] at h
  simp at h; omega
theorem rd_int : Reads Tryz.prog 3 Int (fun n => [PVal.k .i64 n]) (fun n => -9223372036854775808 ≤ n ∧ n ≤ 9223372036854775807) := (reads_int inferInstance).imp' id (fun _ _ => rfl) (fun _ h => i64_of h)
theorem rd_u64 : Reads Tryz.prog 93 Int (fun n => [PVal.k .u64 n]) (fun n => 0 ≤ n ∧ n < 18446744073709551616) := (reads_int inferInstance).imp' id (fun _ _ => rfl) (fun _ h => u64_of h)
def vRow (v : List Int) : List PVal := v.map fun n => PVal.k .u64 n
theorem rd_vec : Reads Tryz.prog 143 (List Int) vRow (fun v => v.length = 8 ∧ ∀ n ∈ v, 0 ≤ n ∧ n < 18446744073709551616) :=
  (reads_array (inferInstance : TI Tryz.prog 143 _ _ _) (inferInstance : TI Tryz.prog 93 _ _ _) rfl rd_u64).imp' id (fun l h => by
    clear h
    unfold vRow
    show List.map _ l = _
    induction l with
    | nil => rfl
    | cons b l ih => simp [ih]) (fun l h => h)
/-- an entry that Go can hold -/
def EB (e : Ent) : Prop := (-9223372036854775808 ≤ e.1 ∧ e.1 ≤ 9223372036854775807) ∧ (-9223372036854775808 ≤ e.2.1 ∧ e.2.1 ≤ 9223372036854775807) ∧ (0 ≤ e.2.2.1 ∧ e.2.2.1 < 18446744073709551616) ∧ (-9223372036854775808 ≤ e.2.2.2 ∧ e.2.2.2 ≤ 9223372036854775807)
theorem rd_ent : Reads Tryz.prog 289 Ent (fun e => eR e) EB :=
  (reads_struct (inferInstance : TI Tryz.prog 289 _ _ _)
    (readsFs_cons (inferInstance : TI Tryz.prog 3 _ _ _) rd_int (readsFs_cons (inferInstance : TI Tryz.prog 3 _ _ _) rd_int (readsFs_cons (inferInstance : TI Tryz.prog 93 _ _ _) rd_u64 (readsFs_cons (inferInstance : TI Tryz.prog 3 _ _ _) rd_int (readsFs_nil rfl)))))).imp
    (fun x => (x.1, x.2.1, x.2.2.1, x.2.2.2.1)) (fun x => rfl) (fun x h => ⟨h.1, h.2.1, h.2.2.1, h.2.2.2.1⟩)
theorem rd_ents : Reads Tryz.prog 144 (List Ent) (fun l => [.sl 4 (l.map fun e => eR e) false]) (fun l => l.length ≤ maxLen ∧ ∀ e ∈ l, EB e) :=
  reads_slice inferInstance inferInstance (by decide) rd_ent
/-- a cart that Go can hold -/
structure CIn (x : Crt) : Prop where
  v8 : x.1.length = 8
  vb : ∀ n ∈ x.1, 0 ≤ n ∧ n < 18446744073709551616
  len : x.2.length ≤ maxLen
  eb : ∀ e ∈ x.2, EB e
def cRow (x : Crt) : List PVal := vRow x.1 ++ [.sl 4 (x.2.map fun e => eR e) false]
theorem rd_cart : Reads Tryz.prog 146 Crt cRow CIn :=
  (reads_struct (inferInstance : TI Tryz.prog 146 _ _ _)
    (readsFs_cons (inferInstance : TI Tryz.prog 143 _ _ _) rd_vec (readsFs_cons (inferInstance : TI Tryz.prog 144 _ _ _) rd_ents (readsFs_nil rfl)))).imp
    (fun x => (x.1, x.2.1)) (fun x => by simp [cRow]) (fun x h => ⟨h.1.1, h.1.2, h.2.1.1, h.2.1.2⟩)
theorem CIn.qb {x : Crt} (h : CIn x) : ∀ e ∈ x.2, QB e := fun e he => (h.eb e he).2.2.2
end Go.Proofs.YtclcfjejpogdlaaGreat.Ca
namespace Go.Aw
open Go Go.RowKit
set_option linter.unusedVariables false
set_option linter.unusedSimpArgs false
/-- one step of the forms of code, but for a return -/
theorem stpR {X Y : Prop} (h : Y) (e : Y → X := by
    first | exact rn_nil | exact rk_nil | exact aws_seq | exact aws_region | exact aws_skip | exact aws_label | exact aws_goto | exact aws_exit | exact aws_nil | exact aws_blk_s | exact aws_blk_r | exact aws_blk_c | exact blk_exit | exact blk_normal | exact blk_ret | fail) : X := e h
/-- one generation more -/
theorem says_bump {C : Ctx} {σ : St} {o n ty es : Nat} {mo : Option MO} (hm : σ.mem o = (n, mo)) (hes : 0 < es) : Says C σ (σ.put o (n + 1, some (.buf ty es []))) := by
  rintro a w ⟨G, h⟩
  have hlen : (G.μ o).length = n := by have := h.gens o; rw [hm] at this; exact this
  exact ⟨_, h.upd (o := o) (n' := n + 1) (mo' := some (.buf ty es [])) (μo := G.μ o ++ [(none, 0)]) (fp' := []) (w' := w) (fun g x hx => by
    rw [List.getElem?_append_left (List.getElem?_eq_some_iff.1 hx).1]; exact hx) (by simp [hlen]) rfl .same rfl (Nat.le_refl _) (fun _ _ _ => rfl) (fun b hb => by simp at hb) (fun mo hmo => by
      obtain rfl := Option.some.inj hmo
      exact ⟨n, (none, 0), rfl, by simp [hlen], hes, by simp [maxLen], Nat.le_refl _, .inl ⟨rfl, rfl, rfl⟩⟩)⟩
/-- a variable, of whose cells one is an own slice, with that one's content -/
def pkA (ty : TypeId) (pre post : List PVal) (tyB : TypeId) (es : Nat) (rows : List (List PVal)) : AObj where
  holds X b fp := ∃ (m : Option Nat) (c : Nat) (f2 : List Nat) (u v : List Value), X.w.heap[b]? = some (.cells (u ++ .slice (m.map fun b => ⟨b, 0, none⟩) rows.length c :: v).toArray ty (0, 0)) ∧ fp = b :: f2 ∧ b ∉ f2 ∧
    All2 (fun p x => p.holds X x) pre u ∧ All2 (fun p x => p.holds X x) post v ∧ (MO.buf tyB es rows).holds Mu.none X (m, c) f2
  mono := by
    rintro x y b fp hle hf ⟨m, c, f2, u, v, h1, rfl, h3, h4, h5, h6⟩
    exact ⟨m, c, f2, u, v, (hf b (by simp)).trans h1, rfl, h3, h4.mono fun p _ k => p.mono hle k, h5.mono fun p _ k => p.mono hle k, h6.mono (Mu.le.refl _) hle fun k hk => hf k (by simp [hk])⟩
theorem all2_ac {μ : Mu} {X : Wd} {ps : List PVal} {vs : List Value} : All2 (AC.holds μ X) (ps.map .p) vs ↔ All2 (fun p x => p.holds X x) ps vs := by
  unfold All2
  simp only [List.length_map]
  refine and_congr Iff.rfl ⟨fun h i a b ha hb => ?_, fun h i a b ha hb => ?_⟩
  · exact h i (.p a) b (by rw [List.getElem?_map, ha]; rfl) hb
  · rw [List.getElem?_map] at ha
    cases hx : ps[i]? with
    | none => rw [hx] at ha; cases ha
    | some x => rw [hx] at ha; simp at ha; subst ha; exact h i x b hx hb
theorem All2.split_inv {α β : Type} {R : α → β → Prop} {l l' : List α} {m : List β} (h : All2 R (l ++ l') m) : ∃ u v, m = u ++ v ∧ All2 R l u ∧ All2 R l' v := by
  refine ⟨m.take l.length, m.drop l.length, (List.take_append_drop _ _).symm, ?_, ?_⟩
  · have := h.take l.length
    rwa [List.take_left] at this
  · have := h.drop l.length
    rwa [List.drop_left] at this
/-- both as one -/
theorem says_pack {C : Ctx} {σ : St} {p np ty o g n tyB es len : Nat} {pre post : List PVal} {cs : List AC} {rows : List (List PVal)} (hp : σ.mem p = (np, some (.box ty cs))) (hcs : cs = pre.map .p ++ .osl o g es 0 len :: post.map .p) (hm : σ.mem o = (n, some (.buf tyB es rows))) (hn : n = g + 1) (hl : len = rows.length) (hne : p ≠ o) :
    Says C σ ((σ.put o (n, none)).put p (np, some (.abs (pkA ty pre post tyB es rows)))) := by
  subst hn hl hcs
  rintro a w ⟨G, h⟩
  obtain ⟨gp, mp, e1, e2, b, arr, e3, e4, e5, e6⟩ := h.mem p _ _ hp
  obtain ⟨go, m, k1, k2, k3⟩ := h.mem o _ _ hm
  obtain rfl : g = go := by omega
  obtain ⟨u, v, rfl, q1, q2⟩ := e6.split_inv
  obtain ⟨x, v, rfl, q3, q4⟩ := q2.cons_inv
  obtain ⟨m', c, r1, r2, r3⟩ := q3
  rw [r1] at k2; obtain rfl := Option.some.inj k2
  simp only [Nat.zero_mul, Nat.sub_zero] at r3
  subst r3
  have hbo : b ∉ G.φ o := fun hb => h.apart p o b hne (by rw [e4]; simp) hb
  have hfp : ∀ {x k}, k ∈ (if x = p then b :: G.φ o else if x = o then [] else G.φ x) → (x = p ∧ (k ∈ G.φ p ∨ k ∈ G.φ o)) ∨ (x ≠ p ∧ x ≠ o ∧ k ∈ G.φ x) := fun {x k} hk => by
    by_cases hx : x = p
    · rw [if_pos hx] at hk
      refine .inl ⟨hx, ?_⟩
      rw [e4]
      simpa using hk
    · rw [if_neg hx] at hk
      by_cases hxo : x = o
      · rw [if_pos hxo] at hk; cases hk
      · rw [if_neg hxo] at hk; exact .inr ⟨hx, hxo, hk⟩
  refine ⟨⟨G.μ, G.S, fun x => if x = p then b :: G.φ o else if x = o then [] else G.φ x⟩, ?_⟩
  exact {
    size := h.size
    defers := fun d hd => by
      obtain ⟨b', rfl, h1, h2, h3, h4, h5⟩ := h.defers d hd
      refine ⟨b', rfl, h1, h2, h3, h4, fun x hx => ?_⟩
      rcases hfp hx with ⟨_, k | k⟩ | ⟨_, _, k⟩
      · exact h5 _ k
      · exact h5 _ k
      · exact h5 _ k
    dnod := h.dnod
    mle := h.mle
    env := h.env
    gens := fun x => by
      by_cases hx : x = p
      · subst hx; have := h.gens x; rw [hp] at this; simpa [St.put] using this
      · by_cases hxo : x = o
        · subst hxo; have := h.gens x; rw [hm] at this; simpa [St.put, hx] using this
        · simpa [St.put, hx, hxo] using h.gens x
    mem := fun x n mo hx => by
      by_cases hxp : x = p
      · subst hxp
        simp only [St.put, if_true, Prod.mk.injEq] at hx
        obtain ⟨rfl, hx⟩ := hx
        obtain rfl := Option.some.inj hx
        refine ⟨gp, mp, e1, e2, b, e3, ?_⟩
        refine ⟨m', c, G.φ o, u, v, e5, by simp, hbo, all2_ac.1 q1, all2_ac.1 q4, ?_⟩
        exact k3
      · by_cases hxo : x = o
        · subst hxo
          simp [St.put, hxp] at hx
        · simp only [St.put, hxp, hxo, if_false] at hx ⊢
          exact h.mem x n mo hx
    apart := fun x y b' hxy hbx hby => by
      rcases hfp hbx with ⟨rfl, k | k⟩ | ⟨k1, k2, k⟩ <;> rcases hfp hby with ⟨rfl, q | q⟩ | ⟨q1, q2, q⟩
      · exact hxy rfl
      · exact hxy rfl
      · exact h.apart _ _ b' hxy k q
      · exact hxy rfl
      · exact hxy rfl
      · exact h.apart _ _ b' (Ne.symm q2) k q
      · exact h.apart _ _ b' hxy k q
      · exact h.apart _ _ b' k2 k q
      · exact h.apart _ _ b' hxy k q
    stab := fun x b' hb => by
      rcases hfp hb with ⟨_, k | k⟩ | ⟨_, _, k⟩
      · exact h.stab _ b' k
      · exact h.stab _ b' k
      · exact h.stab _ b' k
    own := fun x b' hb => by
      rcases hfp hb with ⟨_, k | k⟩ | ⟨_, _, k⟩
      · exact h.own _ b' k
      · exact h.own _ b' k
      · exact h.own _ b' k
    sbd := h.sbd
    ssub := h.ssub
    fr := h.fr }
/-- one as both -/
theorem says_unpack {C : Ctx} {σ : St} {p np ty o n tyB es : Nat} {mo : Option MO} {pre post : List PVal} {cs : List AC} {rows : List (List PVal)} (hp : σ.mem p = (np, some (.abs (pkA ty pre post tyB es rows)))) (hm : σ.mem o = (n, mo)) (hcs : pre.map .p ++ .osl o n es 0 rows.length :: post.map .p = cs) (hne : p ≠ o) :
    Says C σ ((σ.put o (n + 1, some (.buf tyB es rows))).put p (np, some (.box ty cs))) := by
  subst hcs
  rintro a w ⟨G, h⟩
  obtain ⟨gp, mp, e1, e2, b, e3, m, c, f2, u, v, e4, e5, e6, e7, e8, e9⟩ := h.mem p _ _ hp
  have hlen : (G.μ o).length = n := by have := h.gens o; rw [hm] at this; exact this
  have hmu : G.μ.le (fun x => if x = o then G.μ o ++ [(m, c)] else G.μ x) := fun x g y hy => by
    by_cases hx : x = o
    · subst hx
      simp only [if_true]
      rw [List.getElem?_append_left (List.getElem?_eq_some_iff.1 hy).1]; exact hy
    · simpa [hx] using hy
  have hfp : ∀ {x k}, k ∈ (if x = o then f2 else if x = p then [b] else G.φ x) → k ∈ G.φ (if x = o then p else x) ∧ (x = o → k ∈ f2) ∧ (x = p → k = b) := fun {x k} hk => by
    by_cases hx : x = o
    · rw [if_pos hx] at hk
      subst hx
      refine ⟨by rw [if_pos rfl, e5]; simp [hk], fun _ => hk, fun e => absurd e.symm hne⟩
    · rw [if_neg hx] at hk
      rw [if_neg hx]
      by_cases hxp : x = p
      · rw [if_pos hxp] at hk
        subst hxp
        have : k = b := by simpa using hk
        exact ⟨by rw [e5, this]; simp, fun e => absurd e hx, fun _ => this⟩
      · rw [if_neg hxp] at hk
        exact ⟨hk, fun e => absurd e hx, fun e => absurd e hxp⟩
  refine ⟨⟨fun x => if x = o then G.μ o ++ [(m, c)] else G.μ x, G.S, fun x => if x = o then f2 else if x = p then [b] else G.φ x⟩, ?_⟩
  exact {
    size := h.size
    defers := fun d hd => by
      obtain ⟨b', rfl, h1, h2, h3, h4, h5⟩ := h.defers d hd
      exact ⟨b', rfl, h1, h2, h3, h4, fun x hx => h5 _ (hfp hx).1⟩
    dnod := h.dnod
    mle := h.mle.trans hmu
    env := fun t => (h.env t).mono hmu (Wd.le.refl _)
    gens := fun x => by
      by_cases hx : x = o
      · subst hx; simp [St.put, hne.symm, hlen]
      · by_cases hxp : x = p
        · subst hxp; have := h.gens x; rw [hp] at this; simpa [St.put, hx] using this
        · simpa [St.put, hx, hxp] using h.gens x
    mem := fun x n' mo' hx => by
      by_cases hxp : x = p
      · subst hxp
        simp only [St.put, if_true, Prod.mk.injEq] at hx
        obtain ⟨rfl, hx⟩ := hx
        obtain rfl := Option.some.inj hx
        refine ⟨gp, mp, e1, by simpa [hne] using e2, b, _, e3, by simp [hne], e4, ?_⟩
        refine (all2_ac.2 e7).append (.cons ?_ (all2_ac.2 e8))
        refine ⟨m, c, by simp [hlen], ?_, by simp⟩
        obtain ⟨_, _, hrl, _⟩ := e9
        simpa using hrl
      · by_cases hxo : x = o
        · subst hxo
          simp only [St.put, hxp, if_false, if_true, Prod.mk.injEq] at hx
          obtain ⟨rfl, hx⟩ := hx
          obtain rfl := Option.some.inj hx
          refine ⟨n, (m, c), rfl, by simp [hlen], ?_⟩
          simp only [if_true]
          exact e9
        · simp only [St.put, hxp, hxo, if_false] at hx
          obtain ⟨g, m2, hn, hm2, hh⟩ := h.mem x n' mo' hx
          refine ⟨g, m2, hn, by simpa [hxo] using hm2, ?_⟩
          simp only [hxo, hxp, if_false]
          exact hh.mono hmu (Wd.le.refl _) fun k hk => rfl
    apart := fun x y b' hxy hbx hby => by
      have h1 := hfp hbx
      have h2 := hfp hby
      by_cases hx : x = o <;> by_cases hy : y = o
      · exact hxy (hx.trans hy.symm)
      · by_cases hyp : y = p
        · have a1 := h1.2.1 hx
          have a2 := h2.2.2 hyp
          subst a2; exact e6 a1
        · have a1 := h1.1
          have a2 := h2.1
          rw [if_pos hx] at a1
          rw [if_neg hy] at a2
          exact h.apart p y b' (Ne.symm hyp) a1 a2
      · by_cases hxp : x = p
        · have a1 := h2.2.1 hy
          have a2 := h1.2.2 hxp
          subst a2; exact e6 a1
        · have a1 := h1.1
          have a2 := h2.1
          rw [if_neg hx] at a1
          rw [if_pos hy] at a2
          exact h.apart x p b' hxp a1 a2
      · have a1 := h1.1
        have a2 := h2.1
        rw [if_neg hx] at a1
        rw [if_neg hy] at a2
        exact h.apart x y b' hxy a1 a2
    stab := fun x b' hb => h.stab _ b' (hfp hb).1
    own := fun x b' hb => h.own _ b' (hfp hb).1
    sbd := h.sbd
    ssub := h.ssub
    fr := h.fr }
end Go.Aw
namespace Go.Proofs.YtclcfjejpogdlaaGreat.Wi
open Go Go.RowKit Go.Aw
set_option linter.unusedVariables false
set_option linter.unusedSimpArgs false
/-- a number's bytes, the greatest ahead; at most so many -/
def beF : Nat → Nat → List Nat
  | 0, _ => []
  | f + 1, x => if x = 0 then [] else beF f (x / 256) ++ [x % 256]
def be (x : Nat) : List Nat := beF 8 x
def numB (x : Nat) : List Nat := (be x).length :: be x
theorem beF_zero : ∀ f, beF f 0 = []
  | 0 => rfl
  | _ + 1 => rfl
theorem beF_le : ∀ f x, (beF f x).length ≤ f
  | 0, _ => Nat.le_refl _
  | f + 1, x => by
    rw [beF]
    split
    · exact Nat.zero_le _
    · have := beF_le f (x / 256)
      rw [List.length_append, List.length_singleton]; omega
theorem beF_byte : ∀ f x, ∀ b ∈ beF f x, b < 256
  | 0, _ => fun b h => by cases h
  | f + 1, x => fun b h => by
    rw [beF] at h
    split at h
    · cases h
    · rcases List.mem_append.1 h with k | k
      · exact beF_byte f _ b k
      · rw [List.mem_singleton.1 k]; exact Nat.mod_lt _ (by decide)
theorem beF_step {f x : Nat} (h : x ≠ 0) : (beF (f + 1) x).length = (beF f (x / 256)).length + 1 := by
  rw [beF, if_neg h, List.length_append, List.length_singleton]
theorem beF_get : ∀ (f x j : Nat), j < (beF f x).length → (beF f x).getD j default = x / 256 ^ ((beF f x).length - 1 - j) % 256
  | 0, x, j, h => by exact absurd h (Nat.not_lt_zero _)
  | f + 1, x, j, h => by
    by_cases hx : x = 0
    · subst hx; rw [beF_zero] at h; exact absurd h (Nat.not_lt_zero _)
    · have hl := beF_step (f := f) hx
      have ih := beF_get f (x / 256) j
      rw [hl]
      rw [beF, if_neg hx] at h ⊢
      rw [List.length_append, List.length_singleton] at h
      by_cases hj : j < (beF f (x / 256)).length
      · rw [List.getD_eq_getElem?_getD, List.getElem?_append_left hj, ← List.getD_eq_getElem?_getD, ih hj, Nat.div_div_eq_div_mul]
        congr 2
        rw [show (beF f (x / 256)).length + 1 - 1 - j = ((beF f (x / 256)).length - 1 - j) + 1 by omega, Nat.pow_succ, Nat.mul_comm]
      · obtain rfl : j = (beF f (x / 256)).length := by omega
        rw [List.getD_eq_getElem?_getD, List.getElem?_append_right (Nat.le_refl _), Nat.sub_self, show (beF f (x / 256)).length + 1 - 1 - (beF f (x / 256)).length = 0 by omega]
        simp
theorem be_take {x j : Nat} (h : j < (be x).length) : (be x).take (j + 1) = (be x).take j ++ [x / 256 ^ ((be x).length - 1 - j) % 256] := by
  show (beF 8 x).take (j + 1) = (beF 8 x).take j ++ [x / 256 ^ ((beF 8 x).length - 1 - j) % 256]
  have h' : j < (beF 8 x).length := h
  rw [← beF_get 8 x j h', List.take_succ_eq_append_getElem h', List.getD_eq_getElem?_getD, List.getElem?_eq_getElem h']; rfl
theorem pow8 (i : Nat) : 2 ^ (8 * i) = 256 ^ i := by rw [Nat.pow_mul]
/-! what bytes say -/
/-- the bytes that are left, and the fault -/
abbrev RS := List Nat × Int
def takeS (n : Nat) (r : RS) : List Nat × RS := if r.2 ≠ 0 then ([], r) else if r.1.length < n then ([], (r.1, 8)) else (r.1.take n, (r.1.drop n, 0))
def mustS (is : Bool) (r : RS) : RS := if r.2 = 0 ∧ is = false then (r.1, 3) else r
def valB (l : List Nat) : Nat := l.foldl (fun n c => n * 256 + c) 0
/-- the number that stands here -/
def numR1 (r : RS) : RS := mustS (decide ((((takeS 1 r).1.getD (0 : Int).toNat default : Nat) : Int) ≤ 8)) (takeS 1 r).2
def numL (r : RS) : List Nat × RS := takeS ((takeS 1 r).1.getD (0 : Int).toNat default) (numR1 r)
def numR2 (r : RS) : RS := mustS (if (numL r).1.length = 0 then true else decide (0 < (((numL r).1.getD (0 : Int).toNat default : Nat) : Int))) (numL r).2
def numS (r : RS) : Nat × RS := if (takeS 1 r).1.length = 0 then (0, (takeS 1 r).2) else (if (numR2 r).2 = 0 then valB (numL r).1 else 0, numR2 r)
def smallS (most : Int) (r : RS) : Int × RS :=
  (if (mustS (decide (0 ≤ most) && decide (((numS r).1 : Int) ≤ most)) (numS r).2).2 = 0 then ((numS r).1 : Int) else 0, mustS (decide (0 ≤ most) && decide (((numS r).1 : Int) ≤ most)) (numS r).2)
theorem take_byte {n : Nat} {r : RS} (h : ∀ b ∈ r.1, b < 256) : (∀ b ∈ (takeS n r).1, b < 256) ∧ ∀ b ∈ (takeS n r).2.1, b < 256 := by
  unfold takeS
  split
  · exact ⟨fun b k => (by cases k), h⟩
  · split
    · exact ⟨fun b k => (by cases k), h⟩
    · exact ⟨fun b k => h b (List.mem_of_mem_take k), fun b k => h b (List.mem_of_mem_drop k)⟩
theorem take_len {n : Nat} {r : RS} : (takeS n r).1.length ≤ n ∧ (takeS n r).1.length ≤ r.1.length ∧ (takeS n r).2.1.length ≤ r.1.length := by
  unfold takeS
  split
  · exact ⟨Nat.zero_le _, Nat.zero_le _, Nat.le_refl _⟩
  · split
    · exact ⟨Nat.zero_le _, Nat.zero_le _, Nat.le_refl _⟩
    · simp only [List.length_take, List.length_drop]; omega
theorem must_1 {is : Bool} {r : RS} : (mustS is r).1 = r.1 := by unfold mustS; split <;> rfl
theorem take_bad {n : Nat} {r : RS} (h : r.2 ≠ 0) : takeS n r = ([], r) := by unfold takeS; rw [if_pos h]
theorem numL_len (r : RS) : (numL r).1.length ≤ 8 := by
  unfold numL
  by_cases h : (takeS 1 r).1.getD (0 : Int).toNat default ≤ 8
  · exact Nat.le_trans take_len.1 h
  · have : (numR1 r).2 ≠ 0 := by
      unfold numR1 mustS
      rw [decide_eq_false (by omega)]
      by_cases k : (takeS 1 r).2.2 = 0
      · rw [if_pos ⟨k, rfl⟩]; exact (by decide : (3 : Int) ≠ 0)
      · rw [if_neg (fun q => k q.1)]; exact k
    rw [take_bad this]; exact Nat.zero_le _
theorem numR1_byte {r : RS} (h : ∀ b ∈ r.1, b < 256) : ∀ b ∈ (numR1 r).1, b < 256 := by
  unfold numR1; rw [must_1]; exact (take_byte h).2
theorem numL_byte {r : RS} (h : ∀ b ∈ r.1, b < 256) : ∀ b ∈ (numL r).1, b < 256 := (take_byte (numR1_byte h)).1
theorem valB_snoc (l : List Nat) (c : Nat) : valB (l ++ [c]) = valB l * 256 + c := by unfold valB; rw [List.foldl_append]; rfl
theorem valB_lt : ∀ (n : Nat) (l : List Nat), l.length = n → (∀ b ∈ l, b < 256) → valB l < 256 ^ n
  | 0, l, h, _ => by rw [List.eq_nil_of_length_eq_zero h]; decide
  | n + 1, l, h, hb => by
    obtain ⟨l', c, rfl⟩ : ∃ l' c, l = l' ++ [c] := ⟨l.dropLast, l.getLast (by intro e; rw [e] at h; cases h), (List.dropLast_concat_getLast _).symm⟩
    rw [List.length_append, List.length_singleton] at h
    have ih := valB_lt n l' (by omega) fun b k => hb b (List.mem_append_left _ k)
    have hc := hb c (List.mem_append_right _ List.mem_cons_self)
    rw [valB_snoc, Nat.pow_succ]; omega
theorem valB_fit {l : List Nat} (h : l.length ≤ 8) (hb : ∀ b ∈ l, b < 256) : valB l < 18446744073709551616 := by
  have h1 := valB_lt l.length l rfl hb
  have h2 : 256 ^ l.length ≤ 256 ^ 8 := Nat.pow_le_pow_right (by decide) h
  exact Nat.lt_of_lt_of_le h1 h2
theorem numS_fit {r : RS} (h : ∀ b ∈ r.1, b < 256) : (numS r).1 < 18446744073709551616 := by
  unfold numS
  split
  · exact (by decide : 0 < 18446744073709551616)
  · dsimp only
    split
    · exact valB_fit (numL_len r) (numL_byte h)
    · decide
/-- one byte more, as the machine does it -/
theorem byte_in {a c M : Nat} (ha : a * 256 + c < M) (hc : c < 256) : ((a * 256) % M % M ||| c % M % M) = a * 256 + c := by
  have h1 : c < M := by omega
  have h2 : a * 256 < M := Nat.lt_of_le_of_lt (Nat.le_add_right _ c) ha
  rw [Nat.mod_eq_of_lt h1, Nat.mod_eq_of_lt h1, Nat.mod_eq_of_lt h2, Nat.mod_eq_of_lt h2]
  have := Nat.shiftLeft_add_eq_or_of_lt (i := 8) (show c < 2 ^ 8 from hc) a
  rw [Nat.shiftLeft_eq] at this
  exact this.symm
end Go.Proofs.YtclcfjejpogdlaaGreat.Wi
