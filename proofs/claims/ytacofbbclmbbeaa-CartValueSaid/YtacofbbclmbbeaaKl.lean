/- THE ABSTRACT WALK, part 32: a nil slice in a variable, as one that grows; parts of variables; a field of a struct in an own slice. Nothing here speaks of a program. -/
import Derived.Test.YtacofbbclmbbeaaKk
namespace Go.Aw
open Go Go.RowKit
set_option linter.unusedVariables false
set_option linter.unusedSimpArgs false
theorem RelG.remem {C : Ctx} {σ : St} {a : Act} {w : World} {G : Gh} (h : RelG C σ a w G) {o n : Nat} {mo mo' : MO} (hm : σ.mem o = (n, some mo)) (hh : ∀ m, mo.holds G.μ ⟨w, G.S⟩ m (G.φ o) → mo'.holds G.μ ⟨w, G.S⟩ m (G.φ o)) : RelG C (σ.put o (n, some mo')) a w G :=
  { h with
    gens := fun x => by
      simp only [St.put]
      by_cases hx : x = o
      · subst hx; rw [if_pos rfl, h.gens, hm]
      · rw [if_neg hx]; exact h.gens x
    mem := fun x n' mo1 hx1 => by
      simp only [St.put] at hx1
      by_cases hx : x = o
      · subst hx
        rw [if_pos rfl] at hx1
        simp only [Prod.mk.injEq, Option.some.injEq] at hx1
        obtain ⟨rfl, rfl⟩ := hx1
        obtain ⟨g, m, h1, h2, h3⟩ := h.mem x n mo hm
        exact ⟨g, m, h1, h2, hh m h3⟩
      · rw [if_neg hx] at hx1; exact h.mem x n' mo1 hx1 }
/-- a nil slice in a variable, as one that grows -/
theorem says_nil_box {C : Ctx} {σ : St} {p np tyb o n ty es : Nat} {mo : Option MO} (hp : σ.mem p = (np, some (.box tyb [.p (.v (.slice none 0 0))]))) (hm : σ.mem o = (n, mo)) (hne : p ≠ o) (hes : 0 < es) :
    Says C σ ((σ.put o (n + 1, some (.buf ty es []))).put p (np, some (.box tyb [.osl o n es 0 0]))) := by
  rintro a w ⟨G, h⟩
  have hlen : (G.μ o).length = n := by have := h.gens o; rw [hm] at this; exact this
  have hu := h.upd (o := o) (n' := n + 1) (mo' := some (.buf ty es [])) (μo := G.μ o ++ [(none, 0)]) (fp' := []) (w' := w) (fun g x hx => by
    rw [List.getElem?_append_left (List.getElem?_eq_some_iff.1 hx).1]; exact hx) (by simp [hlen]) rfl .same rfl (Nat.le_refl _) (fun _ _ _ => rfl) (fun b hb => by simp at hb) (fun mo hmo => by
      obtain rfl := Option.some.inj hmo
      exact ⟨n, (none, 0), rfl, by simp [hlen], hes, by simp [maxLen], Nat.le_refl _, .inl ⟨rfl, rfl, rfl⟩⟩)
  refine ⟨_, hu.remem (o := p) (n := np) (mo := .box tyb [.p (.v (.slice none 0 0))]) (by simp [St.put, hne, hp]) ?_⟩
  rintro m ⟨b, arr, h1, h2, h3, h4⟩
  refine ⟨b, arr, h1, h2, h3, ?_⟩
  obtain ⟨v, arr', rfl, hv, h5⟩ := h4.cons_inv
  obtain rfl := h5.nil_inv
  obtain ⟨rfl, _⟩ := hv
  exact .cons ⟨none, 0, by simp [hlen], by simp, by simp⟩ .nil
/-- an own slice cut short comes to rest -/
theorem finC_take {σ : St} {K : Nat → Bool} {o g es len n ty : Nat} {α : Type} {l m : List α} {f : α → List PVal} (hK : K o = false) (hm : σ.mem o = (n, some (.buf ty es (l.map f)))) (hn : n = g + 1) (hl : len ≤ l.length) (he : m = l.take len) : FinC σ K (.osl o g es 0 len) (.p (.sl es (m.map f) false)) := by
  subst hn he
  have := FinC.osl (K := K) (lo := 0) (len := len) hK hm (by simpa using hl)
  rwa [List.drop_zero, ← List.map_take] at this
section ops
variable {C : Ctx} {o : Oper} {σ : St}
/-- some cells of a variable, written out -/
theorem lop_ld_cells {T : TypeId} {x : Operand} {k : TK} {sz by_ : Nat} {ob g off n : Nat} {ty : TypeId} {cs ds : List AC} (ho : o.op = .load T x) (hT : TI C.P T k sz by_) (hx : σ.look x = .o (.ptr ob g off)) (hm : σ.mem ob = (n, some (.box ty cs))) (hn : n = g + 1)
    (hk : k.agg = true) (hl : (decide (off + sz ≤ cs.length)) = true) (hds : ((cs.drop off).take sz) = ds) (hd : dOk C o.dst = true) : LOp C o σ ⟨.a ds, []⟩ (fun y => y == ob) := by
  subst hds; exact lop_load_box (o := o) ho hx hm hn hk (of_decide_eq_true hl) hd
theorem lop_ld_c8 {T : TypeId} {x : Operand} {k : TK} {sz by_ : Nat} {ob g n : Nat} {ty : TypeId} {c0 c1 c2 c3 c4 c5 c6 c7 c8 : AC} {cs : List AC} (ho : o.op = .load T x) (hT : TI C.P T k sz by_) (hx : σ.look x = .o (.ptr ob g 0)) (hm : σ.mem ob = (n, some (.box ty (c0 :: c1 :: c2 :: c3 :: c4 :: c5 :: c6 :: c7 :: c8 :: cs)))) (hn : n = g + 1)
    (hk : k.agg = true) (hs : sz = 8) (hd : dOk C o.dst = true) : LOp C o σ ⟨.a [c0, c1, c2, c3, c4, c5, c6, c7], []⟩ (fun y => y == ob) := by
  subst hs; exact lop_load_box (o := o) ho hx hm hn hk (by simp) hd
/-- a captured variable, whole -/
theorem lop_ld_fbxa {T : TypeId} {x : Operand} {k : TK} {sz by_ : Nat} {ob g n : Nat} {ps : List PVal} {ds : List AC} (ho : o.op = .load T x) (hT : TI C.P T k sz by_) (hx : σ.look x = .o (.ptr ob g 0)) (hm : σ.mem ob = (n, some (.abs (fbx ps)))) (hn : n = g + 1) (hk : k.agg = true) (hs : ps.length = sz) (hds : ps.map .p = ds) (hd : dOk C o.dst = true) : LOp C o σ ⟨.a ds, []⟩ (fun y => y == ob) :=
  lop_val hd fun τ a w G hl hm' h => by
    subst hn hds
    obtain ⟨b, c', h1, h2⟩ := look_of h ((hl x (by simp [ho, Op.operands])).trans hx)
    obtain ⟨g', m', hg, hmm, b', h4, _, h5, cs, ty, h6, h7⟩ := h.mem ob _ _ (by rw [hm' ob (by simp)]; exact hm)
    obtain rfl : g = g' := by omega
    rw [h1] at hmm; obtain rfl := Option.some.inj hmm
    simp only [Option.some.injEq] at h4; subst h4
    have hcs : cs.length = sz := by rw [← h7.1]; exact hs
    have hr := run_loadVar (P := C.P) hT (w := w) (b := b) (off := 0) (arr := cs) (ty := ty) (fr := (0, 0)) h6 (by omega) (by simp [hk])
    simp only [hk, if_true, List.drop_zero] at hr
    rw [List.take_of_length_le (by omega)] at hr
    refine ⟨.agg cs.toArray, by simp [execOp, ho, h2, Instr.loadAt, Instr.sureAddr, hr], cs, rfl, by simp [h7.1], fun i q v hq hv => ?_⟩
    rw [List.getElem?_map] at hq
    cases hp : ps[i]? with
    | none => rw [hp] at hq; cases hq
    | some p =>
      rw [hp] at hq; simp at hq; subst hq
      exact h7.2 i p v hp hv
/-- one cell of a struct in an own slice's memory -/
theorem lop_ld_bf {α : Type} {f : α → List PVal} {l : List α} {T : TypeId} {x : Operand} {k : TK} {sz by_ : Nat} {ob g n ty i es q : Nat} {p : PVal} (ho : o.op = .load T x) (hT : TI C.P T k sz by_) (hx : σ.look x = .o (.ptr ob g (i * es + q))) (hm : σ.mem ob = (n, some (.buf ty es (l.map f)))) (hn : n = g + 1)
    (hk : k.agg = false) (hs : sz = 1) (hi : i < l.length) (hI : Inhabited α) (hp : (f (l.getD i default))[q]? = some p) (hd : dOk C o.dst = true) : LOp C o σ ⟨.p p, []⟩ (fun y => y == ob) :=
  lop_val hd fun τ a w G hl' hm' h => by
    subst hn hs
    obtain ⟨b, c', h1, h2⟩ := look_of h ((hl' x (by simp [ho, Op.operands])).trans hx)
    obtain ⟨g', m', hg, hmm, hes, hmax, hrl, hh⟩ := h.mem ob _ _ (by rw [hm' ob (by simp)]; exact hm)
    obtain rfl : g = g' := by omega
    rw [h1] at hmm; obtain rfl := Option.some.inj hmm
    rcases hh with ⟨h4, _⟩ | ⟨b', arr, h4, h5, h6, h7, h8⟩
    · simp at h4
    · simp only [Option.some.injEq] at h4; subst h4
      obtain ⟨v, hv, hpv⟩ := (h8 i _ (map_get hi)).2 q p hp
      rw [Nat.zero_add] at hv
      have hlt : i * es + q < arr.size := (Array.getElem?_eq_some_iff.1 hv).1
      have hrun := run_loadVar (P := C.P) hT (w := w) (b := b) (off := i * es + q) (arr := arr.toList) (ty := ty) (fr := (0, 0)) (by simpa using h6) (by simp; omega) (by simp)
      simp only [hk, Bool.false_eq_true, if_false] at hrun
      refine ⟨v, ?_, hpv⟩
      have : arr.toList.getD (i * es + q) undef = v := by simp [List.getD_eq_getElem?_getD, hv]
      rw [this] at hrun
      simp [execOp, ho, h2, Instr.loadAt, Instr.sureAddr, hrun]
end ops
theorem lopY {C : Ctx} {o : Oper} {σ : St} {e : Eff} {ro : Nat → Bool} (h : LOp C o σ e ro := by
    first
      | (apply gLoad; (focus rfl); apply lop_ld_c8; (focus rfl); (focus exact inferInstance); (focus rfl); (focus rfl); (focus rfl); (focus rfl); (focus rfl); (focus rfl))
      | exact lopQ
      | (apply gLoad; (focus rfl); first
          | (apply lop_ld_fbxa; (focus rfl); (focus exact inferInstance); (focus rfl); (focus rfl); (focus rfl); (focus rfl); (focus rfl); (focus rfl); (focus rfl))
          | (apply lop_ld_bf; (focus rfl); (focus exact inferInstance); (focus rfl); (focus rfl); (focus rfl); (focus rfl); (focus rfl); (focus omega); (focus rfl); (focus rfl); (focus exact inferInstance)))
      | fail) : LOp C o σ e ro := h
section steps
variable {C : Ctx} {ops : Array Oper} {o : Oper} {rest : List Oper} {K : St → Prop} {σ : St} {e : Eff} {ro : Nat → Bool} {W : List (Nat × Nat)} {i : Nat}
theorem rnY {d : Nat} (hk : RunN C ops rest K (e.app (some d) σ)) (hg : Guard ops σ o true := by first | exact gd_n rfl rfl | exact gd_t rfl rfl rfl rfl | exact gd_t rfl rfl rfl (by assumption)) (hd : o.dst = some d := by rfl) (h : LOp C o σ e ro := by exact lopY) : RunN C ops (o :: rest) K σ := rn_any hg hd h hk
theorem rkY {d : Nat} (hk : RunK C ops W (i + 1) rest K (e.app (some d) σ)) (hg : Guard ops σ o true := by first | exact gd_n rfl rfl | exact gd_t rfl rfl rfl rfl | exact gd_t rfl rfl rfl (by assumption)) (hd' : o.dst = some d := by rfl) (hd : dOk C o.dst = true := by rfl) (h : LOp C o σ e ro := by exact lopY)
    (hro : ∀ x, ro x = true → okObj ops W i x = true := by first | exact fun _ => ro_none | exact ro_one rfl | exact ro_one (by kernel_rfl) | exact ro_kIn (by decide)) (hob : ∀ p ∈ e.obj, (i, p.1) ∈ W := by first | exact ob_none | exact ob_one (by decide) | decide) : RunK C ops W i (o :: rest) K σ := rk_wr hg hd' hd h hro hob hk
end steps
end Go.Aw
