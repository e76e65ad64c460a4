/- THE ABSTRACT WALK, part 29: a run that stops ahead of the return; a new generation of an own slice that nobody names; a variable whose cells hold an own slice, as one object. Nothing here speaks of a program. -/
import Derived.Test.YtbfjcohocedoaaaKj
namespace Go.Aw
open Go Go.RowKit
set_option linter.unusedVariables false
set_option linter.unusedSimpArgs false
/-- one step of the forms of code, but for a return -/
theorem stpR {X Y : Prop} (h : Y) (e : Y → X := by
    first
      | exact rn_nil
      | exact rk_nil
      | exact aws_seq
      | exact aws_region
      | exact aws_skip
      | exact aws_label
      | exact aws_goto
      | exact aws_exit
      | exact aws_nil
      | exact aws_blk_s
      | exact aws_blk_r
      | exact aws_blk_c
      | exact blk_exit
      | exact blk_normal
      | exact blk_ret
      | fail) : X := e h
/-- one generation more -/
theorem says_bump {C : Ctx} {σ : St} {o n ty es : Nat} {mo : Option MO} (hm : σ.mem o = (n, mo)) (hes : 0 < es) : Says C σ (σ.put o (n + 1, some (.buf ty es []))) := by
  rintro a w ⟨G, h⟩
  have hlen : (G.μ o).length = n := by have := h.gens o; rw [hm] at this; exact this
  exact ⟨_, h.upd (o := o) (n' := n + 1) (mo' := some (.buf ty es [])) (μo := G.μ o ++ [(none, 0)]) (fp' := []) (w' := w) (fun g x hx => by
    rw [List.getElem?_append_left (List.getElem?_eq_some_iff.1 hx).1]; exact hx) (by simp [hlen]) rfl .same rfl (Nat.le_refl _) (fun _ _ _ => rfl) (fun b hb => by simp at hb) (fun mo hmo => by
      obtain rfl := Option.some.inj hmo
      exact ⟨n, (none, 0), rfl, by simp [hlen], hes, by simp [maxLen], Nat.le_refl _, .inl ⟨rfl, rfl, rfl⟩⟩)⟩
/-- a variable, of whose cells one is an own slice, with that one's content -/
def pkA (ty : TypeId) (pre post : List PVal) (tyB : TypeId) (es : Nat) (rows : List (List PVal)) : AObj where
  holds X b fp := ∃ (m : Option Nat) (c : Nat) (f2 : List Nat) (u v : List Value), X.w.heap[b]? = some (.cells (u ++ .slice (m.map fun b => ⟨b, 0, none⟩) rows.length c :: v).toArray ty (0, 0)) ∧ fp = b :: f2 ∧ b ∉ f2 ∧
    All2 (fun p x => p.holds X x) pre u ∧ All2 (fun p x => p.holds X x) post v ∧ (MO.buf tyB es rows).holds Mu.none X (m, c) f2
  mono := by
    rintro x y b fp hle hf ⟨m, c, f2, u, v, h1, rfl, h3, h4, h5, h6⟩
    exact ⟨m, c, f2, u, v, (hf b (by simp)).trans h1, rfl, h3, h4.mono fun p _ k => p.mono hle k, h5.mono fun p _ k => p.mono hle k, h6.mono (Mu.le.refl _) hle fun k hk => hf k (by simp [hk])⟩
theorem all2_ac {μ : Mu} {X : Wd} {ps : List PVal} {vs : List Value} : All2 (AC.holds μ X) (ps.map .p) vs ↔ All2 (fun p x => p.holds X x) ps vs := by
  unfold All2
  simp only [List.length_map]
  refine and_congr Iff.rfl ⟨fun h i a b ha hb => ?_, fun h i a b ha hb => ?_⟩
  · exact h i (.p a) b (by rw [List.getElem?_map, ha]; rfl) hb
  · rw [List.getElem?_map] at ha
    cases hx : ps[i]? with
    | none => rw [hx] at ha; cases ha
    | some x => rw [hx] at ha; simp at ha; subst ha; exact h i x b hx hb
theorem All2.split_inv {α β : Type} {R : α → β → Prop} {l l' : List α} {m : List β} (h : All2 R (l ++ l') m) : ∃ u v, m = u ++ v ∧ All2 R l u ∧ All2 R l' v := by
  refine ⟨m.take l.length, m.drop l.length, (List.take_append_drop _ _).symm, ?_, ?_⟩
  · have := h.take l.length
    rwa [List.take_left] at this
  · have := h.drop l.length
    rwa [List.drop_left] at this
/-- both as one -/
theorem says_pack {C : Ctx} {σ : St} {p np ty o g n tyB es len : Nat} {pre post : List PVal} {cs : List AC} {rows : List (List PVal)} (hp : σ.mem p = (np, some (.box ty cs))) (hcs : cs = pre.map .p ++ .osl o g es 0 len :: post.map .p) (hm : σ.mem o = (n, some (.buf tyB es rows))) (hn : n = g + 1) (hl : len = rows.length) (hne : p ≠ o) :
    Says C σ ((σ.put o (n, none)).put p (np, some (.abs (pkA ty pre post tyB es rows)))) := by
  subst hn hl hcs
  rintro a w ⟨G, h⟩
  obtain ⟨gp, mp, e1, e2, b, arr, e3, e4, e5, e6⟩ := h.mem p _ _ hp
  obtain ⟨go, m, k1, k2, k3⟩ := h.mem o _ _ hm
  obtain rfl : g = go := by omega
  obtain ⟨u, v, rfl, q1, q2⟩ := e6.split_inv
  obtain ⟨x, v, rfl, q3, q4⟩ := q2.cons_inv
  obtain ⟨m', c, r1, r2, r3⟩ := q3
  rw [r1] at k2; obtain rfl := Option.some.inj k2
  simp only [Nat.zero_mul, Nat.sub_zero] at r3
  subst r3
  have hbo : b ∉ G.φ o := fun hb => h.apart p o b hne (by rw [e4]; simp) hb
  have hfp : ∀ {x k}, k ∈ (if x = p then b :: G.φ o else if x = o then [] else G.φ x) → (x = p ∧ (k ∈ G.φ p ∨ k ∈ G.φ o)) ∨ (x ≠ p ∧ x ≠ o ∧ k ∈ G.φ x) := fun {x k} hk => by
    by_cases hx : x = p
    · rw [if_pos hx] at hk
      refine .inl ⟨hx, ?_⟩
      rw [e4]
      simpa using hk
    · rw [if_neg hx] at hk
      by_cases hxo : x = o
      · rw [if_pos hxo] at hk; cases hk
      · rw [if_neg hxo] at hk; exact .inr ⟨hx, hxo, hk⟩
  refine ⟨⟨G.μ, G.S, fun x => if x = p then b :: G.φ o else if x = o then [] else G.φ x⟩, ?_⟩
  exact {
    size := h.size
    defers := fun d hd => by
      obtain ⟨b', rfl, h1, h2, h3, h4, h5⟩ := h.defers d hd
      refine ⟨b', rfl, h1, h2, h3, h4, fun x hx => ?_⟩
      rcases hfp hx with ⟨_, k | k⟩ | ⟨_, _, k⟩
      · exact h5 _ k
      · exact h5 _ k
      · exact h5 _ k
    dnod := h.dnod
    mle := h.mle
    env := h.env
    gens := fun x => by
      by_cases hx : x = p
      · subst hx; have := h.gens x; rw [hp] at this; simpa [St.put] using this
      · by_cases hxo : x = o
        · subst hxo; have := h.gens x; rw [hm] at this; simpa [St.put, hx] using this
        · simpa [St.put, hx, hxo] using h.gens x
    mem := fun x n mo hx => by
      by_cases hxp : x = p
      · subst hxp
        simp only [St.put, if_true, Prod.mk.injEq] at hx
        obtain ⟨rfl, hx⟩ := hx
        obtain rfl := Option.some.inj hx
        refine ⟨gp, mp, e1, e2, b, e3, ?_⟩
        refine ⟨m', c, G.φ o, u, v, e5, by simp, hbo, all2_ac.1 q1, all2_ac.1 q4, ?_⟩
        exact k3
      · by_cases hxo : x = o
        · subst hxo
          simp [St.put, hxp] at hx
        · simp only [St.put, hxp, hxo, if_false] at hx ⊢
          exact h.mem x n mo hx
    apart := fun x y b' hxy hbx hby => by
      rcases hfp hbx with ⟨rfl, k | k⟩ | ⟨k1, k2, k⟩ <;> rcases hfp hby with ⟨rfl, q | q⟩ | ⟨q1, q2, q⟩
      · exact hxy rfl
      · exact hxy rfl
      · exact h.apart _ _ b' hxy k q
      · exact hxy rfl
      · exact hxy rfl
      · exact h.apart _ _ b' (Ne.symm q2) k q
      · exact h.apart _ _ b' hxy k q
      · exact h.apart _ _ b' k2 k q
      · exact h.apart _ _ b' hxy k q
    stab := fun x b' hb => by
      rcases hfp hb with ⟨_, k | k⟩ | ⟨_, _, k⟩
      · exact h.stab _ b' k
      · exact h.stab _ b' k
      · exact h.stab _ b' k
    own := fun x b' hb => by
      rcases hfp hb with ⟨_, k | k⟩ | ⟨_, _, k⟩
      · exact h.own _ b' k
      · exact h.own _ b' k
      · exact h.own _ b' k
    sbd := h.sbd
    ssub := h.ssub
    fr := h.fr }
/-- one as both -/
theorem says_unpack {C : Ctx} {σ : St} {p np ty o n tyB es : Nat} {mo : Option MO} {pre post : List PVal} {cs : List AC} {rows : List (List PVal)} (hp : σ.mem p = (np, some (.abs (pkA ty pre post tyB es rows)))) (hm : σ.mem o = (n, mo)) (hcs : pre.map .p ++ .osl o n es 0 rows.length :: post.map .p = cs) (hne : p ≠ o) :
    Says C σ ((σ.put o (n + 1, some (.buf tyB es rows))).put p (np, some (.box ty cs))) := by
  subst hcs
  rintro a w ⟨G, h⟩
  obtain ⟨gp, mp, e1, e2, b, e3, m, c, f2, u, v, e4, e5, e6, e7, e8, e9⟩ := h.mem p _ _ hp
  have hlen : (G.μ o).length = n := by have := h.gens o; rw [hm] at this; exact this
  have hmu : G.μ.le (fun x => if x = o then G.μ o ++ [(m, c)] else G.μ x) := fun x g y hy => by
    by_cases hx : x = o
    · subst hx
      simp only [if_true]
      rw [List.getElem?_append_left (List.getElem?_eq_some_iff.1 hy).1]; exact hy
    · simpa [hx] using hy
  have hfp : ∀ {x k}, k ∈ (if x = o then f2 else if x = p then [b] else G.φ x) → k ∈ G.φ (if x = o then p else x) ∧ (x = o → k ∈ f2) ∧ (x = p → k = b) := fun {x k} hk => by
    by_cases hx : x = o
    · rw [if_pos hx] at hk
      subst hx
      refine ⟨by rw [if_pos rfl, e5]; simp [hk], fun _ => hk, fun e => absurd e.symm hne⟩
    · rw [if_neg hx] at hk
      rw [if_neg hx]
      by_cases hxp : x = p
      · rw [if_pos hxp] at hk
        subst hxp
        have : k = b := by simpa using hk
        exact ⟨by rw [e5, this]; simp, fun e => absurd e hx, fun _ => this⟩
      · rw [if_neg hxp] at hk
        exact ⟨hk, fun e => absurd e hx, fun e => absurd e hxp⟩
  refine ⟨⟨fun x => if x = o then G.μ o ++ [(m, c)] else G.μ x, G.S, fun x => if x = o then f2 else if x = p then [b] else G.φ x⟩, ?_⟩
  exact {
    size := h.size
    defers := fun d hd => by
      obtain ⟨b', rfl, h1, h2, h3, h4, h5⟩ := h.defers d hd
      exact ⟨b', rfl, h1, h2, h3, h4, fun x hx => h5 _ (hfp hx).1⟩
    dnod := h.dnod
    mle := h.mle.trans hmu
    env := fun t => (h.env t).mono hmu (Wd.le.refl _)
    gens := fun x => by
      by_cases hx : x = o
      · subst hx; simp [St.put, hne.symm, hlen]
      · by_cases hxp : x = p
        · subst hxp; have := h.gens x; rw [hp] at this; simpa [St.put, hx] using this
        · simpa [St.put, hx, hxp] using h.gens x
    mem := fun x n' mo' hx => by
      by_cases hxp : x = p
      · subst hxp
        simp only [St.put, if_true, Prod.mk.injEq] at hx
        obtain ⟨rfl, hx⟩ := hx
        obtain rfl := Option.some.inj hx
        refine ⟨gp, mp, e1, by simpa [hne] using e2, b, _, e3, by simp [hne], e4, ?_⟩
        refine (all2_ac.2 e7).append (.cons ?_ (all2_ac.2 e8))
        refine ⟨m, c, by simp [hlen], ?_, by simp⟩
        obtain ⟨_, _, hrl, _⟩ := e9
        simpa using hrl
      · by_cases hxo : x = o
        · subst hxo
          simp only [St.put, hxp, if_false, if_true, Prod.mk.injEq] at hx
          obtain ⟨rfl, hx⟩ := hx
          obtain rfl := Option.some.inj hx
          refine ⟨n, (m, c), rfl, by simp [hlen], ?_⟩
          simp only [if_true]
          exact e9
        · simp only [St.put, hxp, hxo, if_false] at hx
          obtain ⟨g, m2, hn, hm2, hh⟩ := h.mem x n' mo' hx
          refine ⟨g, m2, hn, by simpa [hxo] using hm2, ?_⟩
          simp only [hxo, hxp, if_false]
          exact hh.mono hmu (Wd.le.refl _) fun k hk => rfl
    apart := fun x y b' hxy hbx hby => by
      have h1 := hfp hbx
      have h2 := hfp hby
      by_cases hx : x = o <;> by_cases hy : y = o
      · exact hxy (hx.trans hy.symm)
      · by_cases hyp : y = p
        · have a1 := h1.2.1 hx
          have a2 := h2.2.2 hyp
          subst a2; exact e6 a1
        · have a1 := h1.1
          have a2 := h2.1
          rw [if_pos hx] at a1
          rw [if_neg hy] at a2
          exact h.apart p y b' (Ne.symm hyp) a1 a2
      · by_cases hxp : x = p
        · have a1 := h2.2.1 hy
          have a2 := h1.2.2 hxp
          subst a2; exact e6 a1
        · have a1 := h1.1
          have a2 := h2.1
          rw [if_neg hx] at a1
          rw [if_pos hy] at a2
          exact h.apart x p b' hxp a1 a2
      · have a1 := h1.1
        have a2 := h2.1
        rw [if_neg hx] at a1
        rw [if_neg hy] at a2
        exact h.apart x y b' hxy a1 a2
    stab := fun x b' hb => h.stab _ b' (hfp hb).1
    own := fun x b' hb => h.own _ b' (hfp hb).1
    sbd := h.sbd
    ssub := h.ssub
    fr := h.fr }
/-- a function's value that captures a variable that came to rest -/
theorem lop_mfz1 {C : Ctx} {o : Oper} {σ : St} {f : FuncId} {x0 : Operand} {o0 g0 n0 : Nat} {ps : List PVal} (ho : o.op = .makeFunc (.func f) #[] #[x0]) (h0 : σ.look x0 = .o (.ptr o0 g0 0)) (hm0 : σ.mem o0 = (n0, some (.abs (fbx ps)))) (hn0 : n0 = g0 + 1) (hd : dOk C o.dst = true) :
    LOp C o σ ⟨.p (.fnv f [.bx ps 0]), []⟩ (fun y => y == o0) :=
  lop_val hd fun τ a w G hl hm' h => by
    subst hn0
    obtain ⟨b, c, k1, k2⟩ := look_of h ((hl x0 (by simp [ho, Op.operands])).trans h0)
    obtain ⟨g', m', j1, j2, b', j3, _, j4, arr, ty, j5, j6⟩ := h.mem o0 _ _ ((hm' o0 (by simp)).trans hm0)
    obtain rfl : g0 = g' := by omega
    rw [k1] at j2
    obtain rfl := Option.some.inj j2
    simp only [Option.some.injEq] at j3
    subst j3
    refine ⟨.func (.func f) #[] #[a.eval x0], by simp [execOp, ho, Instr.makeFunc], [a.eval x0], rfl, .cons ⟨b, arr, ty, k2, j4, j5, j6⟩ .nil⟩
end Go.Aw
