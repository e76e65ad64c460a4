/- THE ABSTRACT WALK, part 29: a run that stops ahead of the return; a new generation of an own slice that nobody names; a variable whose cells hold an own slice, as one object. Nothing here speaks of a program.; THE ABSTRACT WALK, part 27: an own slice, lent to a call that takes slices that stay; an own slice cut. Nothing here speaks of a program. -/
import Derived.Test.YtclcfjejpogdlaaGreatCS10
namespace Go.Aw
open Go Go.RowKit
set_option linter.unusedVariables false
set_option linter.unusedSimpArgs false
/-- one step of the forms of code, but for a return -/
theorem stpR {X Y : Prop} (h : Y) (e : Y → X := by
    first | exact rn_nil | exact rk_nil | exact aws_seq | exact aws_region | exact aws_skip | exact aws_label | exact aws_goto | exact aws_exit | exact aws_nil | exact aws_blk_s | exact aws_blk_r | exact aws_blk_c | exact blk_exit | exact blk_normal | exact blk_ret | fail) : X := e h
/-- one generation more -/
theorem says_bump {C : Ctx} {σ : St} {o n ty es : Nat} {mo : Option MO} (hm : σ.mem o = (n, mo)) (hes : 0 < es) : Says C σ (σ.put o (n + 1, some (.buf ty es []))) := by
  rintro a w ⟨G, h⟩
  have hlen : (G.μ o).length = n := by have := h.gens o; rw [hm] at this; exact this
  exact ⟨_, h.upd (o := o) (n' := n + 1) (mo' := some (.buf ty es [])) (μo := G.μ o ++ [(none, 0)]) (fp' := []) (w' := w) (fun g x hx => by
    rw [List.getElem?_append_left (List.getElem?_eq_some_iff.1 hx).1]; exact hx) (by simp [hlen]) rfl .same rfl (Nat.le_refl _) (fun _ _ _ => rfl) (fun b hb => by simp at hb) (fun mo hmo => by
      obtain rfl := Option.some.inj hmo
      exact ⟨n, (none, 0), rfl, by simp [hlen], hes, by simp [maxLen], Nat.le_refl _, .inl ⟨rfl, rfl, rfl⟩⟩)⟩
/-- a variable, of whose cells one is an own slice, with that one's content -/
def pkA (ty : TypeId) (pre post : List PVal) (tyB : TypeId) (es : Nat) (rows : List (List PVal)) : AObj where
  holds X b fp := ∃ (m : Option Nat) (c : Nat) (f2 : List Nat) (u v : List Value), X.w.heap[b]? = some (.cells (u ++ .slice (m.map fun b => ⟨b, 0, none⟩) rows.length c :: v).toArray ty (0, 0)) ∧ fp = b :: f2 ∧ b ∉ f2 ∧
    All2 (fun p x => p.holds X x) pre u ∧ All2 (fun p x => p.holds X x) post v ∧ (MO.buf tyB es rows).holds Mu.none X (m, c) f2
  mono := by
    rintro x y b fp hle hf ⟨m, c, f2, u, v, h1, rfl, h3, h4, h5, h6⟩
    exact ⟨m, c, f2, u, v, (hf b (by simp)).trans h1, rfl, h3, h4.mono fun p _ k => p.mono hle k, h5.mono fun p _ k => p.mono hle k, h6.mono (Mu.le.refl _) hle fun k hk => hf k (by simp [hk])⟩
theorem all2_ac {μ : Mu} {X : Wd} {ps : List PVal} {vs : List Value} : All2 (AC.holds μ X) (ps.map .p) vs ↔ All2 (fun p x => p.holds X x) ps vs := by
  unfold All2
  simp only [List.length_map]
  refine and_congr Iff.rfl ⟨fun h i a b ha hb => ?_, fun h i a b ha hb => ?_⟩
  · exact h i (.p a) b (by rw [List.getElem?_map, ha]; rfl) hb
  · rw [List.getElem?_map] at ha
    cases hx : ps[i]? with
    | none => rw [hx] at ha; cases ha
    | some x => rw [hx] at ha; simp at ha; subst ha; exact h i x b hx hb
theorem All2.split_inv {α β : Type} {R : α → β → Prop} {l l' : List α} {m : List β} (h : All2 R (l ++ l') m) : ∃ u v, m = u ++ v ∧ All2 R l u ∧ All2 R l' v := by
  refine ⟨m.take l.length, m.drop l.length, (List.take_append_drop _ _).symm, ?_, ?_⟩
  · have := h.take l.length
    rwa [List.take_left] at this
  · have := h.drop l.length
    rwa [List.drop_left] at this
/-- both as one -/
theorem says_pack {C : Ctx} {σ : St} {p np ty o g n tyB es len : Nat} {pre post : List PVal} {cs : List AC} {rows : List (List PVal)} (hp : σ.mem p = (np, some (.box ty cs))) (hcs : cs = pre.map .p ++ .osl o g es 0 len :: post.map .p) (hm : σ.mem o = (n, some (.buf tyB es rows))) (hn : n = g + 1) (hl : len = rows.length) (hne : p ≠ o) :
    Says C σ ((σ.put o (n, none)).put p (np, some (.abs (pkA ty pre post tyB es rows)))) := by
  subst hn hl hcs
  rintro a w ⟨G, h⟩
  obtain ⟨gp, mp, e1, e2, b, arr, e3, e4, e5, e6⟩ := h.mem p _ _ hp
  obtain ⟨go, m, k1, k2, k3⟩ := h.mem o _ _ hm
  obtain rfl : g = go := by omega
  obtain ⟨u, v, rfl, q1, q2⟩ := e6.split_inv
  obtain ⟨x, v, rfl, q3, q4⟩ := q2.cons_inv
  obtain ⟨m', c, r1, r2, r3⟩ := q3
  rw [r1] at k2; obtain rfl := Option.some.inj k2
  simp only [Nat.zero_mul, Nat.sub_zero] at r3
  subst r3
  have hbo : b ∉ G.φ o := fun hb => h.apart p o b hne (by rw [e4]; simp) hb
  have hfp : ∀ {x k}, k ∈ (if x = p then b :: G.φ o else if x = o then [] else G.φ x) → (x = p ∧ (k ∈ G.φ p ∨ k ∈ G.φ o)) ∨ (x ≠ p ∧ x ≠ o ∧ k ∈ G.φ x) := fun {x k} hk => by
    by_cases hx : x = p
    · rw [if_pos hx] at hk
      refine .inl ⟨hx, ?_⟩
      rw [e4]
      simpa using hk
    · rw [if_neg hx] at hk
      by_cases hxo : x = o
      · rw [if_pos hxo] at hk; cases hk
      · rw [if_neg hxo] at hk; exact .inr ⟨hx, hxo, hk⟩
  refine ⟨⟨G.μ, G.S, fun x => if x = p then b :: G.φ o else if x = o then [] else G.φ x⟩, ?_⟩
  exact {
    size := h.size
    defers := fun d hd => by
      obtain ⟨b', rfl, h1, h2, h3, h4, h5⟩ := h.defers d hd
      refine ⟨b', rfl, h1, h2, h3, h4, fun x hx => ?_⟩
      rcases hfp hx with ⟨_, k | k⟩ | ⟨_, _, k⟩
      · exact h5 _ k
      · exact h5 _ k
      · exact h5 _ k
    dnod := h.dnod
    mle := h.mle
    env := h.env
    gens := fun x => by
      by_cases hx : x = p
      · subst hx; have := h.gens x; rw [hp] at this; simpa [St.put] using this
      · by_cases hxo : x = o
        · subst hxo; have := h.gens x; rw [hm] at this; simpa [St.put, hx] using this
        · simpa [St.put, hx, hxo] using h.gens x
    mem := fun x n mo hx => by
      by_cases hxp : x = p
      · subst hxp
        simp only [St.put, if_true, Prod.mk.injEq] at hx
        obtain ⟨rfl, hx⟩ := hx
        obtain rfl := Option.some.inj hx
        refine ⟨gp, mp, e1, e2, b, e3, ?_⟩
        refine ⟨m', c, G.φ o, u, v, e5, by simp, hbo, all2_ac.1 q1, all2_ac.1 q4, ?_⟩
        exact k3
      · by_cases hxo : x = o
        · subst hxo
          simp [St.put, hxp] at hx
        · simp only [St.put, hxp, hxo, if_false] at hx ⊢
          exact h.mem x n mo hx
    apart := fun x y b' hxy hbx hby => by
      rcases hfp hbx with ⟨rfl, k | k⟩ | ⟨k1, k2, k⟩ <;> rcases hfp hby with ⟨rfl, q | q⟩ | ⟨q1, q2, q⟩
      · exact hxy rfl
      · exact hxy rfl
      · exact h.apart _ _ b' hxy k q
      · exact hxy rfl
      · exact hxy rfl
      · exact h.apart _ _ b' (Ne.symm q2) k q
      · exact h.apart _ _ b' hxy k q
      · exact h.apart _ _ b' k2 k q
      · exact h.apart _ _ b' hxy k q
    stab := fun x b' hb => by
      rcases hfp hb with ⟨_, k | k⟩ | ⟨_, _, k⟩
      · exact h.stab _ b' k
      · exact h.stab _ b' k
      · exact h.stab _ b' k
    own := fun x b' hb => by
      rcases hfp hb with ⟨_, k | k⟩ | ⟨_, _, k⟩
      · exact h.own _ b' k
      · exact h.own _ b' k
      · exact h.own _ b' k
    sbd := h.sbd
    ssub := h.ssub
    fr := h.fr }
/-- one as both -/
theorem says_unpack {C : Ctx} {σ : St} {p np ty o n tyB es : Nat} {mo : Option MO} {pre post : List PVal} {cs : List AC} {rows : List (List PVal)} (hp : σ.mem p = (np, some (.abs (pkA ty pre post tyB es rows)))) (hm : σ.mem o = (n, mo)) (hcs : pre.map .p ++ .osl o n es 0 rows.length :: post.map .p = cs) (hne : p ≠ o) :
    Says C σ ((σ.put o (n + 1, some (.buf tyB es rows))).put p (np, some (.box ty cs))) := by
  subst hcs
  rintro a w ⟨G, h⟩
  obtain ⟨gp, mp, e1, e2, b, e3, m, c, f2, u, v, e4, e5, e6, e7, e8, e9⟩ := h.mem p _ _ hp
  have hlen : (G.μ o).length = n := by have := h.gens o; rw [hm] at this; exact this
  have hmu : G.μ.le (fun x => if x = o then G.μ o ++ [(m, c)] else G.μ x) := fun x g y hy => by
    by_cases hx : x = o
    · subst hx
      simp only [if_true]
      rw [List.getElem?_append_left (List.getElem?_eq_some_iff.1 hy).1]; exact hy
    · simpa [hx] using hy
  have hfp : ∀ {x k}, k ∈ (if x = o then f2 else if x = p then [b] else G.φ x) → k ∈ G.φ (if x = o then p else x) ∧ (x = o → k ∈ f2) ∧ (x = p → k = b) := fun {x k} hk => by
    by_cases hx : x = o
    · rw [if_pos hx] at hk
      subst hx
      refine ⟨by rw [if_pos rfl, e5]; simp [hk], fun _ => hk, fun e => absurd e.symm hne⟩
    · rw [if_neg hx] at hk
      rw [if_neg hx]
      by_cases hxp : x = p
      · rw [if_pos hxp] at hk
        subst hxp
        have : k = b := by simpa using hk
        exact ⟨by rw [e5, this]; simp, fun e => absurd e hx, fun _ => this⟩
      · rw [if_neg hxp] at hk
        exact ⟨hk, fun e => absurd e hx, fun e => absurd e hxp⟩
  refine ⟨⟨fun x => if x = o then G.μ o ++ [(m, c)] else G.μ x, G.S, fun x => if x = o then f2 else if x = p then [b] else G.φ x⟩, ?_⟩
  exact {
    size := h.size
    defers := fun d hd => by
      obtain ⟨b', rfl, h1, h2, h3, h4, h5⟩ := h.defers d hd
      exact ⟨b', rfl, h1, h2, h3, h4, fun x hx => h5 _ (hfp hx).1⟩
    dnod := h.dnod
    mle := h.mle.trans hmu
    env := fun t => (h.env t).mono hmu (Wd.le.refl _)
    gens := fun x => by
      by_cases hx : x = o
      · subst hx; simp [St.put, hne.symm, hlen]
      · by_cases hxp : x = p
        · subst hxp; have := h.gens x; rw [hp] at this; simpa [St.put, hx] using this
        · simpa [St.put, hx, hxp] using h.gens x
    mem := fun x n' mo' hx => by
      by_cases hxp : x = p
      · subst hxp
        simp only [St.put, if_true, Prod.mk.injEq] at hx
        obtain ⟨rfl, hx⟩ := hx
        obtain rfl := Option.some.inj hx
        refine ⟨gp, mp, e1, by simpa [hne] using e2, b, _, e3, by simp [hne], e4, ?_⟩
        refine (all2_ac.2 e7).append (.cons ?_ (all2_ac.2 e8))
        refine ⟨m, c, by simp [hlen], ?_, by simp⟩
        obtain ⟨_, _, hrl, _⟩ := e9
        simpa using hrl
      · by_cases hxo : x = o
        · subst hxo
          simp only [St.put, hxp, if_false, if_true, Prod.mk.injEq] at hx
          obtain ⟨rfl, hx⟩ := hx
          obtain rfl := Option.some.inj hx
          refine ⟨n, (m, c), rfl, by simp [hlen], ?_⟩
          simp only [if_true]
          exact e9
        · simp only [St.put, hxp, hxo, if_false] at hx
          obtain ⟨g, m2, hn, hm2, hh⟩ := h.mem x n' mo' hx
          refine ⟨g, m2, hn, by simpa [hxo] using hm2, ?_⟩
          simp only [hxo, hxp, if_false]
          exact hh.mono hmu (Wd.le.refl _) fun k hk => rfl
    apart := fun x y b' hxy hbx hby => by
      have h1 := hfp hbx
      have h2 := hfp hby
      by_cases hx : x = o <;> by_cases hy : y = o
      · exact hxy (hx.trans hy.symm)
      · by_cases hyp : y = p
        · have a1 := h1.2.1 hx
          have a2 := h2.2.2 hyp
          subst a2; exact e6 a1
        · have a1 := h1.1
          have a2 := h2.1
          rw [if_pos hx] at a1
          rw [if_neg hy] at a2
          exact h.apart p y b' (Ne.symm hyp) a1 a2
      · by_cases hxp : x = p
        · have a1 := h2.2.1 hy
          have a2 := h1.2.2 hxp
          subst a2; exact e6 a1
        · have a1 := h1.1
          have a2 := h2.1
          rw [if_neg hx] at a1
          rw [if_pos hy] at a2
          exact h.apart x p b' hxp a1 a2
      · have a1 := h1.1
        have a2 := h2.1
        rw [if_neg hx] at a1
        rw [if_neg hy] at a2
        exact h.apart x y b' hxy a1 a2
    stab := fun x b' hb => h.stab _ b' (hfp hb).1
    own := fun x b' hb => h.own _ b' (hfp hb).1
    sbd := h.sbd
    ssub := h.ssub
    fr := h.fr }
end Go.Aw
namespace Go.Aw
open Go Go.RowKit
set_option linter.unusedVariables false
set_option linter.unusedSimpArgs false
/-- what hangs on no block -/
def RV (r : AV) : Prop := ∀ μ X Y v, r.holds μ X v → r.holds μ Y v
theorem RV.v {c : Value} : RV (.p (.v c)) := fun _ _ _ _ h => h
theorem RV.a {cs : List AC} (h : ∀ c ∈ cs, ∃ x, c = .p (.v x)) : RV (.a cs) := by
  rintro μ X Y v ⟨arr, rfl, h1⟩
  refine ⟨arr, rfl, h1.1, fun i c x hc hx => ?_⟩
  obtain ⟨y, rfl⟩ := h c (List.mem_of_getElem? hc)
  exact h1.2 i _ x hc hx
/-- an argument xs0 the callee sees it: an own slice stays while it is lent -/
def Lnd (σ : St) (ob : Nat) (a b : AV) : Prop :=
  Ent a b ∨ ∃ g es n ty rows, a = .o (.osl ob g es 0 rows.length) ∧ σ.mem ob = (n, some (.buf ty es rows)) ∧ n = g + 1 ∧ b = .p (.sl es rows false)
theorem lop_lend {C : Ctx} {o : Oper} {σ : St} {f : FuncId} {xs0 : Array Operand} {ts : Array TypeId} {args : List AV} {r : AV} {ob : Nat} (hfn : FnT C.P f) (ho : o.op = .call ⟨.value (.func f), xs0, ts⟩)
    (hE : All2 (Lnd σ ob) (xs0.toList.map σ.look) args) (hc : PCall C.P f args r) (hr : RV r) (hd : dOk C o.dst = true) : LOp C o σ ⟨r, []⟩ (fun y => y == ob) := by
  refine ⟨fun x m h => by simp at h, fun τ hl hm a w ⟨G, h⟩ K Q hK => ?_⟩
  have hmo : τ.mem ob = σ.mem ob := hm ob (by simp)
  have hE' : All2 (Lnd τ ob) (xs0.toList.map τ.look) args := by
    have : xs0.toList.map τ.look = xs0.toList.map σ.look := List.map_congr_left fun x hx => hl x (by rw [ho]; simp [Op.operands, Call.operands]; right; simpa using hx)
    rw [this]
    refine hE.mono fun a b k => ?_
    unfold Lnd at k ⊢
    rw [hmo]; exact k
  have hS : Wd.le ⟨w, G.S⟩ ⟨w, fun b => G.S b ∨ b ∈ G.φ ob⟩ := fun b hb => ⟨.inl hb, rfl⟩
  have hv : All2 (AV.holds Mu.none ⟨w, fun b => G.S b ∨ b ∈ G.φ ob⟩) args (xs0.toList.map a.eval) := by
    refine ⟨by have := hE'.1; simpa using this.symm, fun i av v hav hvv => ?_⟩
    rw [List.getElem?_map] at hvv
    cases hx : xs0.toList[i]? with
    | none => rw [hx] at hvv; cases hvv
    | some x =>
      rw [hx] at hvv; simp at hvv; subst hvv
      rcases hE'.2 i (τ.look x) av (by simp [List.getElem?_map, hx]) hav with k | ⟨g, es, n, ty, rows, e1, e2, e3, e4⟩
      · exact (k _ _ _ (h.look x)).mono (Mu.le.refl _) hS
      · have hlk := look_of h e1
        obtain ⟨m, c, p1, p2, p3⟩ := hlk
        obtain ⟨g', m', q1, q2, q3, q4, q5, q6⟩ := h.mem ob _ _ e2
        obtain rfl : g = g' := by omega
        rw [p1] at q2
        obtain rfl := Option.some.inj q2
        subst e4
        refine ⟨m.map fun b => (⟨b, 0 * es, none⟩ : Addr), c - 0, p3, by simpa using p2, by simpa using q4, by simp, ?_⟩
        rcases q6 with ⟨r1, r2, _⟩ | ⟨b, arr, r1, r2, r3, r4, r5⟩
        · simp only at r1 r2 p2
          subst r1
          exact ⟨List.eq_nil_of_length_eq_zero (by omega), by simpa using r2⟩
        · simp only at r1
          subst r1
          refine .inr ⟨rfl, .inr (by rw [r2]; simp), arr, ty, (0, 0), r3, fun i row hrow => ⟨(r5 i row hrow).1, fun j p hp => ?_⟩⟩
          obtain ⟨z, hz, hz'⟩ := (r5 i row hrow).2 j p hp
          exact ⟨z, by simpa using hz, p.mono hS hz'⟩
  obtain ⟨fn, h1, h2, h3⟩ := hfn.fn
  have hrun : (execOp a.eval o).run C.P w = .ok (.enter f (xs0.map a.eval)) w := by
    have e1 : a.eval (.func f) = .func (.func f) #[] #[] := rfl
    have hname : (fn.name == "runtime.NumGoroutine") = false := h2
    cases hbody : fn.body with
    | none => simp [hbody] at h3
    | some c => simp [execOp, ho, resolve, e1, Deferred.ofValue, invoke, callFunc, program, Sem.run, Sem.run_bind, h1, hbody, pure, show ¬ fn.name = "runtime.NumGoroutine" from by simpa using hname]
  refine wpIn_exec (by rw [ho]; intro c h; cases h) ?_
  rw [hrun, Oper.uponIn_enter]
  have h9 : Calls C.P f (xs0.toList.map a.eval).toArray w fun
      | .returned v, w'' => K (a.put o.dst v) w''
      | .panicked chain, w'' => Q (.panic chain) a w''
      | .outgrown, _ => LetsOut Q := by
    refine (hc w (fun b => G.S b ∨ b ∈ G.φ ob) _ (fun b hb => hb.elim (fun k => (h.sbd b k).1) fun k => (h.own ob b k).2) hv).mono ?_
    rintro e w' ⟨v, rfl, ⟨S', hS1, hS2, hrr⟩, hb, hdr⟩
    have h1 := h.world (Quiet.of_below hb hdr) (fun b => w.heap.size ≤ b ∧ b < w'.heap.size) (fun b hb => hb)
    exact hK _ _ ⟨_, h1.setv hd ((hr _ _ _ _ hrr).mono (Mu.none_le _) (Wd.le.refl _))⟩
  have e : (xs0.toList.map a.eval).toArray = xs0.map a.eval := by rw [← Array.toList_map]
  rw [e] at h9
  exact ⟨by simp [fz, Fence.wide], (callsIn_wide (n := 0)).2 h9⟩
theorem lop_lend2 {C : Ctx} {o : Oper} {σ : St} {f : FuncId} {x y : Operand} {ts : Array TypeId} {r ay : AV} {pre : Prop} {ob g es n len : Nat} {ty : TypeId} {rows : List (List PVal)} (ho : o.op = .call ⟨.value (.func f), #[x, y], ts⟩) (hfn : FnT C.P f) (hx : σ.look x = .o (.osl ob g es 0 len)) (hm : σ.mem ob = (n, some (.buf ty es rows))) (hn : n = g + 1) (hl : len = rows.length)
    (hy : σ.look y = ay) (hp : PureAV ay) (hc : PC C.P f [.p (.sl es rows false), ay] pre r) (hpre : pre) (hr : RV r) (hd : dOk C o.dst = true) : LOp C o σ ⟨r, []⟩ (fun y => y == ob) := by
  subst hl
  exact lop_lend hfn ho (.cons (.inr ⟨g, es, n, ty, rows, hx, hm, hn, rfl⟩) (.cons (.inl (by rw [hy]; exact hp.pure)) .nil)) (hc.call hpre) hr hd
end Go.Aw
