/- THE ABSTRACT WALK, part 3: entering a function, returning, calling. -/
import Derived.Test.YtbhcdkhejgkhaaaCoreB
namespace Go.Aw
open Go Go.RowKit
set_option linter.unusedVariables false
set_option linter.unusedSimpArgs false

/-! ### Types -/
inductive TK where
  | int (k : IntKind) | bool | string
  | slice (e : TypeId) | array (n : Nat) (e : TypeId) | struct (fs : List (Nat × TypeId))
  | ptr (e : TypeId) | map (k e : TypeId) | other
def TK.of : TypeDesc → TK
  | .int k => .int k
  | .bool => .bool
  | .string => .string
  | .slice e => .slice e
  | .array n e => .array n e
  | .struct fs => .struct (fs.toList.map fun f => (f.offset, f.type))
  | .pointer e => .ptr e
  | .map k e => .map k e
  | _ => .other
def TK.agg : TK → Bool
  | .array .. | .struct .. => true
  | _ => false
/-- a type's kind, and its size in cells and bytes -/
class TI (P : Program) (T : TypeId) (k : outParam TK) (sz by_ : outParam Nat) : Prop where
  und : (P.underlying T).map TK.of = some k
  info : (P.info? T).map (fun i => (i.size, i.bytes)) = some (sz, by_)
/-- its zero value's cells -/
class TZ (P : Program) (T : TypeId) (z : outParam (List Value)) : Prop where
  zero : (P.info? T).bind (fun i => i.zero.map (fun v => v.cells.toList)) = some z
/-- an ordinary function -/
class FnT (P : Program) (f : FuncId) : Prop where
  fn : ∃ fn, P.funcs[f]? = some fn ∧ (fn.name == "runtime.NumGoroutine") = false ∧ fn.body.isNone = false

section types
variable {P : Program} {T : TypeId} {k : TK} {sz by_ : Nat}
theorem TI.undd [h : TI P T k sz by_] : ∃ d, P.underlying T = some d ∧ TK.of d = k := by
  have := h.und
  cases hu : P.underlying T with
  | none => simp [hu] at this
  | some d => exact ⟨d, rfl, by simpa [hu] using this⟩
theorem TI.infoo [h : TI P T k sz by_] : ∃ i, P.info? T = some i ∧ i.size = sz ∧ i.bytes = by_ := by
  have := h.info
  cases hu : P.info? T with
  | none => simp [hu] at this
  | some i => simp [hu] at this; exact ⟨i, rfl, this.1, this.2⟩
theorem TI.run_sizeOf (h : TI P T k sz by_) (w : World) : (sizeOf T).run P w = .ok sz w := by
  obtain ⟨i, hi, hs, _⟩ := h.infoo
  simp [sizeOf, typeInfo, hi, hs]
theorem TI.run_isAgg (h : TI P T k sz by_) (w : World) : (isAgg T).run P w = .ok k.agg w := by
  obtain ⟨d, hd, hk⟩ := h.undd
  unfold isAgg
  rw [Sem.run_bind, run_underlying hd w]
  subst hk
  cases d <;> simp [TK.of, TK.agg]
end types

/-! ### Entering and returning -/

def St.init (args : List AV) : St := ⟨fun t => args.getD t .un, fun _ => (0, none)⟩

/-- a pointer to a variable that stays as it is -/
def PVal.bx (ps : List PVal) (off : Nat) : PVal where
  holds X v := ∃ b cs ty, v = .pointer (some ⟨b, off, none⟩) ∧ X.S b ∧ X.w.heap[b]? = some (.cells (List.toArray cs) ty (0, 0)) ∧ All2 (fun p c => p.holds X c) ps cs
  mono := by
    rintro x y v hle ⟨b, cs, ty, h1, h2, h3, h4⟩
    exact ⟨b, cs, ty, h1, (hle b h2).1, (hle b h2).2.trans h3, h4.mono fun p c hp => p.mono hle hp⟩
  one := by rintro x v ⟨b, cs, ty, rfl, _⟩; rfl

/-- how an own cell reads once the function's own objects have come to rest, but for those that K names -/
inductive FinC (σ : St) (K : Nat → Bool) : AC → AC → Prop
  | p {x : PVal} : FinC σ K (.p x) (.p x)
  | nil {es : Nat} {ex : Bool} : FinC σ K (.p (.v (.slice none 0 0))) (.p (.sl es [] ex))
  | osl {o g es lo len ty : Nat} {rows : List (List PVal)} (hK : K o = false) (hm : σ.mem o = (g + 1, some (.buf ty es rows))) (hl : lo + len ≤ rows.length) :
      FinC σ K (.osl o g es lo len) (.p (.sl es ((rows.drop lo).take len) false))
  | frz {o g es lo len ty : Nat} {rows : List (List PVal)} (hm : σ.mem o = (g + 1, some (.frz ty es rows))) (hl : lo + len ≤ rows.length) :
      FinC σ K (.osl o g es lo len) (.p (.sl es ((rows.drop lo).take len) false))
  | bx {o g off ty : Nat} {ps : List PVal} (hK : K o = false) (hm : σ.mem o = (g + 1, some (.box ty (ps.map .p)))) : FinC σ K (.ptr o g off) (.p (.bx ps off))
  | kptr {o g off : Nat} (hK : K o = true) : FinC σ K (.ptr o g off) (.ptr o g off)
  | kosl {o g es lo len : Nat} (hK : K o = true) : FinC σ K (.osl o g es lo len) (.osl o g es lo len)
  | kasl {o g off len cap : Nat} (hK : K o = true) : FinC σ K (.asl o g off len cap) (.asl o g off len cap)
inductive FinS (σ : St) (K : Nat → Bool) : SV → SV → Prop
  | one {c d : AC} (h : FinC σ K c d) : FinS σ K (.one c) (.one d)
  | agg {cs ds : List AC} (h : All2 (FinC σ K) cs ds) : FinS σ K (.agg cs) (.agg ds)
inductive FinM (σ : St) (K : Nat → Bool) : Nat × Option MO → Nat × Option MO → Prop
  | drop {n : Nat} {mo : Option MO} : FinM σ K (n, mo) (n, none)
  | buf {n ty es : Nat} {rows : List (List PVal)} : FinM σ K (n, some (.buf ty es rows)) (n, some (.buf ty es rows))
  | frz {n ty es : Nat} {rows : List (List PVal)} : FinM σ K (n, some (.frz ty es rows)) (n, some (.frz ty es rows))
  | abs {n : Nat} {A : AObj} : FinM σ K (n, some (.abs A)) (n, some (.abs A))
  | box {n ty : Nat} {cs ds : List AC} (h : All2 (FinC σ K) cs ds) : FinM σ K (n, some (.box ty cs)) (n, some (.box ty ds))
inductive Res (P : Program) (σ : St) (K : Nat → Bool) : ResultVar → SV → Prop
  | tmp {t : Nat} {s s' : SV} (h : σ.env t = .s s) (hf : FinS σ K s s') : Res P σ K (.tmp t) s'
  | cell {t ty o g ty' sz by_ : Nat} {k : TK} {cs ds : List AC} (h : σ.env t = .o (.ptr o g 0)) (hm : σ.mem o = (g + 1, some (.box ty' cs))) (hT : TI P ty k sz by_) (hk : k.agg = true) (hs : cs.length = sz) (hf : All2 (FinC σ K) cs ds) :
      Res P σ K (.cell t ty) (.agg ds)
/-- the results' abstract values, as one -/
def resAV : List SV → AV
  | [s] => .s s
  | l => .tup l
def kNone : Nat → Bool := fun _ => false
def Ret (P : Program) (fn : Func) (r : AV) : Exit → St → Prop
  | .ret, σ | .normal, σ => ∃ l, r = resAV l ∧ All2 (Res P σ kNone) fn.results.toList l
  | _, _ => False
/-- as 'Ret', the objects that K names going on to live, as m1 says -/
def RetO (P : Program) (fn : Func) (r : AV) (K : Nat → Bool) (m1 : Nat → Nat × Option MO) : Exit → St → Prop
  | .ret, σ | .normal, σ => (∃ l, r = resAV l ∧ All2 (Res P σ K) fn.results.toList l) ∧ (∀ o, K o = true → FinM σ K (σ.mem o) (m1 o)) ∧ ∀ o, K o = false → m1 o = (0, none)
  | _, _ => False

section finish
variable {C : Ctx} {σ : St} {a : Act} {w : World} {G : Gh} {K : Nat → Bool}

def muK (K : Nat → Bool) (G : Gh) : Mu := fun o => if K o = true then G.μ o else []
/-- the blocks that stay behind the call -/
def aftS (K : Nat → Bool) (G : Gh) : Nat → Prop := fun b => G.S b ∨ ∃ o, K o = false ∧ b ∈ G.φ o

theorem le_aft : Wd.le ⟨w, G.S⟩ ⟨w, aftS K G⟩ := fun b hb => ⟨.inl hb, rfl⟩
theorem muK_le : (muK K G).le G.μ := fun o g x h => by
  unfold muK at h
  split at h
  · exact h
  · simp at h

theorem FinC.holds (h : RelG C σ a w G) {c d : AC} (hf : FinC σ K c d) {v : Value} (hc : c.holds G.μ ⟨w, G.S⟩ v) : d.holds (muK K G) ⟨w, aftS K G⟩ v := by
  have rowsOk : ∀ {arr : Array Value} {es lo len : Nat} {rows : List (List PVal)}, RowsAt ⟨w, G.S⟩ arr 0 es rows → RowsAt ⟨w, aftS K G⟩ arr (lo * es) es ((rows.drop lo).take len) := by
    intro arr es lo len rows h7 i row hr
    have hr' : rows[lo + i]? = some row := by
      rw [List.getElem?_take] at hr
      split at hr
      · simpa using hr
      · cases hr
    refine ⟨(h7 _ _ hr').1, fun j p hp => ?_⟩
    obtain ⟨x, hx, hxx⟩ := (h7 _ _ hr').2 j p hp
    refine ⟨x, ?_, p.mono le_aft hxx⟩
    rw [← hx]; congr 1
    rw [Nat.add_mul]; omega
  cases hf with
  | p => exact PVal.mono _ le_aft hc
  | nil => exact ⟨none, 0, hc.1, Nat.le_refl _, by simp [maxLen], fun _ => rfl, rfl, rfl⟩
  | @osl o g es lo len ty rows hK hm hl =>
    obtain ⟨m, c, h1, h2, rfl⟩ := hc
    obtain ⟨g', m', hg, hm', hes, hmax, hlen, hh⟩ := h.mem _ _ _ hm
    obtain rfl : g = g' := by omega
    rw [h1] at hm'
    obtain rfl := Option.some.inj hm'
    simp only at hlen hmax hh
    refine ⟨m.map fun b => ⟨b, lo * es, none⟩, c - lo, ?_, ?_, by omega, by simp, ?_⟩
    · simp; omega
    · simp; omega
    · rcases hh with ⟨h3, h4, h5⟩ | ⟨b, arr, h3, h4, h5, h6, h7⟩
      · subst h3; simp only [Option.map_none]
        refine ⟨?_, by omega⟩
        have : rows = [] := List.eq_nil_of_length_eq_zero (by omega)
        simp [this]
      · subst h3
        simp only [Option.map_some]
        exact .inr ⟨by first | rfl | trivial, .inr ⟨o, hK, by rw [h4]; simp⟩, arr, ty, (0, 0), h5, rowsOk h7⟩
  | @frz o g es lo len ty rows hm hl =>
    obtain ⟨m, c, h1, h2, rfl⟩ := hc
    obtain ⟨g', m', hg, hm', hes, hmax, hlen, hh⟩ := h.mem _ _ _ hm
    obtain rfl : g = g' := by omega
    rw [h1] at hm'
    obtain rfl := Option.some.inj hm'
    simp only at hlen hmax hh
    refine ⟨m.map fun b => ⟨b, lo * es, none⟩, c - lo, ?_, ?_, by omega, by simp, ?_⟩
    · simp; omega
    · simp; omega
    · rcases hh with ⟨h3, h4⟩ | ⟨b, arr, h3, h4, h5, h7⟩
      · subst h3; simp only [Option.map_none]
        refine ⟨?_, by omega⟩
        have : rows = [] := List.eq_nil_of_length_eq_zero (by omega)
        simp [this]
      · subst h3
        simp only [Option.map_some]
        exact .inr ⟨by first | rfl | trivial, .inl h4, arr, ty, (0, 0), h5, rowsOk h7⟩
  | @bx o g off ty ps hK hm =>
    obtain ⟨b, c, h1, rfl⟩ := hc
    obtain ⟨g', m', hg, hm', b', arr, h4, h5, h6, h7⟩ := h.mem _ _ _ hm
    obtain rfl : g = g' := by omega
    rw [h1] at hm'
    obtain rfl := Option.some.inj hm'
    simp only [Option.some.injEq] at h4
    subst h4
    refine ⟨b, arr, ty, rfl, .inr ⟨o, hK, by rw [h5]; simp⟩, h6, ?_⟩
    refine ⟨by simpa using h7.1, fun i p c hp hc => ?_⟩
    have := h7.2 i (.p p) c (by simp [hp]) hc
    exact p.mono le_aft this
  | @kptr o g off hK => obtain ⟨b, c, h1, h2⟩ := hc; exact ⟨b, c, by simpa [muK, hK] using h1, h2⟩
  | @kosl o g es lo len hK => obtain ⟨m, c, h1, h2⟩ := hc; exact ⟨m, c, by simpa [muK, hK] using h1, h2⟩
  | @kasl o g off len cap hK => obtain ⟨b, c, h1, h2⟩ := hc; exact ⟨b, c, by simpa [muK, hK] using h1, h2⟩

theorem FinL.holds (h : RelG C σ a w G) {cs ds : List AC} (hf : All2 (FinC σ K) cs ds) {vs : List Value} (hc : All2 (AC.holds G.μ ⟨w, G.S⟩) cs vs) : All2 (AC.holds (muK K G) ⟨w, aftS K G⟩) ds vs := by
  refine ⟨hf.1.symm.trans hc.1, fun i d v hd hv => ?_⟩
  have hi : i < cs.length := by rw [hf.1]; exact (List.getElem?_eq_some_iff.1 hd).1
  have hci : cs[i]? = some cs[i] := by simp [hi]
  exact FinC.holds h (hf.2 i _ d hci hd) (hc.2 i _ v hci hv)

theorem FinS.holds (h : RelG C σ a w G) {s s' : SV} (hf : FinS σ K s s') {v : Value} (hc : s.holds G.μ ⟨w, G.S⟩ v) : s'.holds (muK K G) ⟨w, aftS K G⟩ v := by
  cases hf with
  | one hf => exact FinC.holds h hf hc
  | agg hf => obtain ⟨arr, rfl, h1⟩ := hc; exact ⟨arr, rfl, FinL.holds h hf h1⟩

theorem cell_row {w : World} {b : Nat} {arr : List Value} {ty : TypeId} {fr : Nat × Nat} (h : w.heap[b]? = some (.cells arr.toArray ty fr)) (j : Nat) : w.cell? ⟨b, j, none⟩ = arr[j]? := by
  rw [cell_of_row w b j _ _ _ h]; simp

theorem add_addr (b o n : Nat) : (⟨b, o, none⟩ : Addr).add n = ⟨b, o + n, none⟩ := by
  unfold Addr.add; split <;> simp_all

/-- a variable is read -/
theorem run_loadVar {P : Program} {T : TypeId} {k : TK} {sz by_ : Nat} (hT : TI P T k sz by_) {w : World} {b off : Nat} {arr : List Value} {ty : TypeId} {fr : Nat × Nat} (h : w.heap[b]? = some (.cells arr.toArray ty fr))
    (hl : off + sz ≤ arr.length) (h1 : k.agg = false → sz = 1) :
    (loadVar T ⟨b, off, none⟩).run P w = .ok (if k.agg then .agg ((arr.drop off).take sz).toArray else arr.getD off undef) w := by
  unfold loadVar
  rw [Sem.run_bind, hT.run_isAgg w]
  simp only [Result.andThen_ok]
  cases hk : k.agg with
  | true =>
    have hc := run_loadCells_list (P := P) w ⟨b, off, none⟩ ((arr.drop off).take sz) (fun j v hv => by
      rw [add_addr, cell_row h]
      rw [List.getElem?_take] at hv
      split at hv
      · simpa using hv
      · cases hv)
    have hlen : ((arr.drop off).take sz).length = sz := by simp; omega
    rw [hlen] at hc
    simp [hT.run_sizeOf, hc]
  | false =>
    have := h1 hk
    simp only [Bool.false_eq_true, if_false, run_load, cell_row h]
    have hlt : off < arr.length := by omega
    simp [hlt]

def resSem (tmps : Array Value) : ResultVar → Sem Value
  | .tmp t => pure (tmps.getD t undef)
  | .cell x t => do loadVar t (← asAddr (tmps.getD x undef))

theorem Res.run (h : RelG C σ a w G) {rv : ResultVar} {s : SV} (hr : Res C.P σ K rv s) :
    ∃ v, (resSem a.tmps rv).run C.P w = .ok v w ∧ s.holds (muK K G) ⟨w, aftS K G⟩ v := by
  cases hr with
  | @tmp t s s' he hf =>
    have := h.env t
    rw [he] at this
    exact ⟨_, rfl, FinS.holds h hf this⟩
  | @cell t ty o g ty' sz by_ k cs ds he hm hT hk hs hf =>
    have h1 := h.env t
    rw [he] at h1
    obtain ⟨b, c, h2, h3⟩ := h1
    obtain ⟨g', m', hg, hm', b', arr, h4, h5, h6, h7⟩ := h.mem _ _ _ hm
    obtain rfl : g = g' := by omega
    rw [h2] at hm'
    obtain rfl := Option.some.inj hm'
    simp only [Option.some.injEq] at h4
    subst h4
    have hlen : arr.length = sz := by rw [← hs]; exact h7.1.symm
    refine ⟨.agg arr.toArray, ?_, arr, rfl, FinL.holds h hf h7⟩
    have := run_loadVar hT h6 (off := 0) (by omega) (by simp [hk])
    simp only [hk, if_true, List.drop_zero] at this
    rw [List.take_of_length_le (by omega)] at this
    simp only [resSem, h3, asAddr, Sem.run_bind, Sem.run_pure, Result.andThen_ok, this]

theorem mapM_run {P : Program} {α β : Type} (f : α → Sem β) (w : World) {R : α → β → Prop} : ∀ {l : List α}, (∀ x ∈ l, ∃ v, (f x).run P w = .ok v w ∧ R x v) →
    ∃ vs, (l.mapM f).run P w = .ok vs w ∧ All2 R l vs
  | [], _ => ⟨[], rfl, .nil⟩
  | x :: l, h => by
    obtain ⟨v, hv, hr⟩ := h x (by simp)
    obtain ⟨vs, hvs, hrs⟩ := mapM_run f w (l := l) (fun y hy => h y (by simp [hy]))
    exact ⟨v :: vs, by simp [List.mapM_cons, hv, hvs], .cons hr hrs⟩

theorem results_run (h : RelG C σ a w G) {fn : Func} {l : List SV} (hr : All2 (Res C.P σ K) fn.results.toList l) :
    ∃ v, (results fn a.tmps).run C.P w = .ok v w ∧ (resAV l).holds (muK K G) ⟨w, aftS K G⟩ v := by
  have key : ∀ (rs : List ResultVar) (l : List SV), All2 (Res C.P σ K) rs l → ∃ vs : List Value, (rs.mapM (resSem a.tmps)).run C.P w = .ok vs w ∧ All2 (SV.holds (muK K G) ⟨w, aftS K G⟩) l vs := by
    intro rs
    induction rs with
    | nil => intro l hl; obtain rfl := hl.nil_inv; exact ⟨[], rfl, .nil⟩
    | cons r rs ih =>
      intro l hl
      obtain ⟨s, l', rfl, h1, h2⟩ := hl.cons_inv
      obtain ⟨v, hv, hs⟩ := Res.run h h1
      obtain ⟨vs, hvs, hss⟩ := ih l' h2
      exact ⟨v :: vs, by simp [List.mapM_cons, hv, hvs], .cons hs hss⟩
  obtain ⟨vs, hvs, hss⟩ := key _ _ hr
  have hm : (fn.results.mapM (resSem a.tmps)).run C.P w = .ok vs.toArray w := by
    have e : fn.results.mapM (resSem a.tmps) = List.toArray <$> fn.results.toList.mapM (resSem a.tmps) := by
      rw [Array.mapM_eq_mapM_toList]
    rw [e]
    simp [hvs]
  have hdef : results fn a.tmps = (do
    let vs ← fn.results.mapM (resSem a.tmps)
    pure (if h : vs.size = 1 then vs[0] else .tuple vs)) := rfl
  refine ⟨if h : vs.toArray.size = 1 then vs.toArray[0] else .tuple vs.toArray, ?_, ?_⟩
  · rw [hdef, Sem.run_bind, hm]; rfl
  · match l, vs, hss with
    | [s], vs, hss =>
      obtain ⟨v, vs', rfl, h1, h2⟩ := hss.cons_inv
      obtain rfl := h2.nil_inv
      simpa [resAV, AV.holds] using h1
    | [], vs, hss =>
      obtain rfl := hss.nil_inv
      exact ⟨[], by simp, .nil⟩
    | s :: s' :: l, vs, hss =>
      have hlen := hss.1
      have : ¬ vs.toArray.size = 1 := by simp at hlen ⊢; omega
      rw [dif_neg this]
      exact ⟨vs, rfl, hss⟩
/-- a block of deferred calls is taken -/
theorem RelG.take (h : RelG C σ a w G) {b : Nat} {ds : List Deferred} (hd : a.defers = markOf b :: ds) :
    (Instr.takeDeferred b).run C.P w = .ok [] (w.putObj b (.deferred none)) ∧ RelG C σ { a with defers := ds } (w.putObj b (.deferred none)) G := by
  obtain ⟨b', he, h1, h2, h3, h4, h5⟩ := h.defers (markOf b) (by rw [hd]; simp)
  obtain rfl : b = b' := by simpa [markOf] using he
  have hother : ∀ k, k ≠ b → (w.putObj b (.deferred none)).heap[k]? = w.heap[k]? := fun k hk => World.putObj_heap_other hk
  have hle : Wd.le ⟨w, G.S⟩ ⟨w.putObj b (.deferred none), G.S⟩ := fun k hk => ⟨hk, hother k fun e => h4 (e ▸ hk)⟩
  have hnd := h.dnod
  rw [hd, List.nodup_cons] at hnd
  refine ⟨run_takeDeferred h3, ?_⟩
  exact {
    size := h.size
    defers := fun d hdd => by
      obtain ⟨c, rfl, k1, k2, k3, k4, k5⟩ := h.defers d (by rw [hd]; simp [hdd])
      refine ⟨c, rfl, k1, by simpa using k2, (hother c fun e => ?_).trans k3, k4, k5⟩
      subst e; exact hnd.1 hdd
    dnod := hnd.2
    mle := h.mle
    env := fun t => (h.env t).mono (Mu.le.refl _) hle
    gens := h.gens
    mem := fun o n mo ho => by
      obtain ⟨g, m, hn, hm, hh⟩ := h.mem o n mo ho
      exact ⟨g, m, hn, hm, hh.mono (Mu.le.refl _) hle fun k hk => hother k fun e => h5 o (e ▸ hk)⟩
    apart := h.apart
    stab := h.stab
    own := fun o k hk => ⟨(h.own o k hk).1, by simpa using (h.own o k hk).2⟩
    sbd := fun k hk => ⟨by simpa using (h.sbd k hk).1, (h.sbd k hk).2⟩
    ssub := h.ssub
    fr := ⟨h.fr.os, h.fr.tape, h.fr.output, by simpa using h.fr.size, fun k hk hf => (hother k (by omega)).trans (h.fr.block k hk hf)⟩ }

theorem leaves_of {R : Ending → World → Prop} {fn : Func} : ∀ (ds : List Deferred) (a : Act) (w : World), a.defers = ds → RelG C σ a w G →
    (∀ a2 w2, a2.tmps = a.tmps → RelG C σ a2 w2 G → ∃ v, (results fn a2.tmps).run C.P w2 = .ok v w2 ∧ R (.returned v) w2) →
    LeavesInM (fz none) 0 C.P fn a.tmps R ds .returning w
  | [], a, w, _, h, hr => hr a w rfl h
  | d :: ds, a, w, hd, h, hr => by
    obtain ⟨b, rfl, _⟩ := h.defers d (by rw [hd]; simp)
    obtain ⟨h1, h2⟩ := h.take hd
    exact ⟨by simp, .inl ⟨b, _, rfl, h1, leaves_of ds { a with defers := ds } _ rfl h2 fun a2 w2 e hr2 => hr a2 w2 e hr2⟩⟩
end finish

/-! ### Contracts with objects -/

/-- the objects, as a memory has them -/
structure ObjG (mem : Nat → Nat × Option MO) (w : World) (G : Gh) : Prop where
  gens : ∀ o, (G.μ o).length = (mem o).1
  mem : ∀ o n mo, mem o = (n, some mo) → ∃ g m, n = g + 1 ∧ (G.μ o)[g]? = some m ∧ mo.holds G.μ ⟨w, G.S⟩ m (G.φ o)
  apart : ∀ o o' b, o ≠ o' → b ∈ G.φ o → b ∈ G.φ o' → False
  stab : ∀ o b, b ∈ G.φ o → ¬ G.S b
  own : ∀ o b, b ∈ G.φ o → b < w.heap.size
  sbd : ∀ b, G.S b → b < w.heap.size

/-- what may have turned: new blocks, and those of F -/
structure FrF (F : Nat → Prop) (w w' : World) : Prop where
  os : w'.os = w.os
  tape : w'.tape = w.tape
  output : w'.output = w.output
  size : w.heap.size ≤ w'.heap.size
  block : ∀ k, k < w.heap.size → ¬ F k → w'.heap[k]? = w.heap[k]?

/-- Called with such arguments, the objects m0 being lent: it returns such a value, and the objects are then as m1 says. -/
def OCall (P : Program) (f : FuncId) (args : List AV) (m0 : Nat → Nat × Option MO) (r : AV) (m1 : Nat → Nat × Option MO) : Prop :=
  ∀ (w : World) (G : Gh) (vs : List Value), ObjG m0 w G → All2 (AV.holds G.μ ⟨w, G.S⟩) args vs →
    Calls P f vs.toArray w fun e w' => ∃ v G', e = .returned v ∧ r.holds G'.μ ⟨w', G'.S⟩ v ∧ ObjG m1 w' G' ∧
      (∀ b, G.S b → G'.S b) ∧ (∀ b, G'.S b → G.S b ∨ w.heap.size ≤ b ∨ ∃ o, b ∈ G.φ o) ∧ (∀ o b, b ∈ G'.φ o → w.heap.size ≤ b ∨ ∃ o', b ∈ G.φ o') ∧
      G.μ.le G'.μ ∧ FrF (fun b => ∃ o, b ∈ G.φ o) w w'

/-- The walk starts. -/
theorem rel_start {P : Program} {fn : Func} {args : List AV} {m0 : Nat → Nat × Option MO} {w : World} {G : Gh} {vs : List Value} (ho : ObjG m0 w G) (ha : All2 (AV.holds G.μ ⟨w, G.S⟩) args vs) :
    RelG ⟨P, w, fun b => ∃ o, b ∈ G.φ o, G.S, max args.length fn.ntmps, none, G.μ⟩ ⟨fun t => args.getD t .un, m0⟩ { tmps := vs.toArray ++ Array.replicate (fn.ntmps - vs.toArray.size) undef, defers := [] } w G := by
  have hlen : vs.length = args.length := ha.1.symm
  exact {
    size := by simp [hlen]; omega
    defers := fun d hd => by simp at hd
    dnod := by simp
    mle := Mu.le.refl _
    env := fun t => by
      rcases Nat.lt_or_ge t args.length with ht | ht
      · have h1 : args[t]? = some args[t] := by simp [ht]
        have h2 : vs[t]? = some (vs[t]'(by omega)) := by simp [hlen, ht]
        have := ha.2 t _ _ h1 h2
        have e1 : args.getD t .un = args[t] := by simp [ht]
        have e2 : (vs.toArray ++ Array.replicate (fn.ntmps - vs.toArray.size) undef).getD t undef = vs[t]'(by omega) := by
          simp [Array.getElem?_append, hlen, ht]
        show (args.getD t .un).holds _ _ _
        rw [e1, e2]; exact this
      · have e1 : args.getD t .un = .un := by simp [ht]
        show (args.getD t .un).holds _ _ _
        rw [e1]; trivial
    gens := ho.gens
    mem := ho.mem
    apart := ho.apart
    stab := ho.stab
    own := fun o b hb => ⟨.inr ⟨o, hb⟩, ho.own o b hb⟩
    sbd := fun b hb => ⟨ho.sbd b hb, .inl hb⟩
    ssub := fun b hb => hb
    fr := ⟨rfl, rfl, rfl, Nat.le_refl _, fun _ _ _ => rfl⟩ }

/-- A contract out of a walk. -/
theorem ocall_of {P : Program} {f : FuncId} {fn : Func} {body : Code} {args : List AV} {r : AV} (K : Nat → Bool) {m0 m1 : Nat → Nat × Option MO} (hf : P.funcs[f]? = some fn) (hb : fn.body = some body)
    (hK : ∀ o, K o = false → m0 o = (0, none))
    (h : ∀ w0 F S0 M0, AWs ⟨P, w0, F, S0, max args.length fn.ntmps, none, M0⟩ [body] (RetO P fn r K m1) ⟨fun t => args.getD t .un, m0⟩) : OCall P f args m0 r m1 := by
  intro w G vs ho ha
  refine (callsIn_wide (n := 0)).1 ?_
  refine callsIn_of_wp_marks (F := fz none) hf hb trivial ?_ rfl
  refine wpIn_mono (aws_one (h w (fun b => ∃ o, b ∈ G.φ o) G.S G.μ) _ w ⟨G, rel_start ho ha⟩) ?_
  rintro e a' w' ⟨σ', hq, G', hG⟩
  have hsub : ∀ b, G'.S b → G.S b ∨ w.heap.size ≤ b ∨ ∃ o, b ∈ G.φ o := fun b hb => (hG.sbd b hb).2
  have hown : ∀ o b, b ∈ G'.φ o → w.heap.size ≤ b ∨ ∃ o', b ∈ G.φ o' := fun o b hb => (hG.own o b hb).1
  have fin : RetO P fn r K m1 .ret σ' → LeavesInM (fz none) 0 P fn a'.tmps (fun e w' => ∃ v G', e = .returned v ∧ r.holds G'.μ ⟨w', G'.S⟩ v ∧ ObjG m1 w' G' ∧
      (∀ b, G.S b → G'.S b) ∧ (∀ b, G'.S b → G.S b ∨ w.heap.size ≤ b ∨ ∃ o, b ∈ G.φ o) ∧ (∀ o b, b ∈ G'.φ o → w.heap.size ≤ b ∨ ∃ o', b ∈ G.φ o') ∧
      G.μ.le G'.μ ∧ FrF (fun b => ∃ o, b ∈ G.φ o) w w') a'.defers .returning w' := by
    rintro ⟨⟨l, rfl, hl⟩, hm, hm0⟩
    refine leaves_of _ a' w' rfl hG fun a2 w2 ht h2 => ?_
    obtain ⟨v, hv, hh⟩ := results_run h2 hl
    refine ⟨v, hv, v, ⟨muK K G', aftS K G', fun o => if K o = true then G'.φ o else []⟩, rfl, hh, ?_, ?_, ?_, ?_, ?_, ?_⟩
    · exact {
        gens := fun o => by
          by_cases hk : K o = true
          · have := h2.gens o
            simp only [muK, hk, if_true]
            have hf := hm o hk
            rw [this]
            generalize σ'.mem o = x at hf
            generalize m1 o = y at hf
            cases hf <;> rfl
          · have hk' : K o = false := by simpa using hk
            simp [muK, hk', hm0 o hk']
        mem := fun o n mo ho => by
          by_cases hk : K o = true
          · have hf := hm o hk
            simp only [muK, hk, if_true]
            rw [ho] at hf
            generalize hx : σ'.mem o = x at hf
            have base : ∀ (n : Nat) (mo : MO), (∀ m fp, mo.holds G'.μ ⟨w2, G'.S⟩ m fp → mo.holds (muK K G') ⟨w2, aftS K G'⟩ m fp) → σ'.mem o = (n, some mo) →
                ∃ g m, n = g + 1 ∧ (G'.μ o)[g]? = some m ∧ mo.holds (muK K G') ⟨w2, aftS K G'⟩ m (G'.φ o) := fun n mo hq hx => by
              obtain ⟨g, m, k1, k2, k3⟩ := h2.mem o n mo hx
              exact ⟨g, m, k1, k2, hq _ _ k3⟩
            cases hf with
            | buf => exact base _ _ (fun m fp hh => hh.mono (μ := G'.μ) (μ' := G'.μ) (Mu.le.refl _) le_aft fun _ _ => rfl) hx
            | frz => exact base _ _ (fun m fp hh => hh.mono (μ := G'.μ) (μ' := G'.μ) (Mu.le.refl _) le_aft fun _ _ => rfl) hx
            | abs => exact base _ _ (fun m fp hh => hh.mono (μ := G'.μ) (μ' := G'.μ) (Mu.le.refl _) le_aft fun _ _ => rfl) hx
            | box hf =>
              obtain ⟨g, m, k1, k2, b, arr, k3, k4, k5, k6⟩ := h2.mem o _ _ hx
              exact ⟨g, m, k1, k2, b, arr, k3, k4, k5, FinL.holds h2 hf k6⟩
          · have hk' : K o = false := by simpa using hk
            rw [hm0 o hk'] at ho; simp at ho
        apart := fun o o' b hne h1 h2' => by
          by_cases hk : K o = true <;> simp only [hk, if_true, if_false] at h1
          · by_cases hk' : K o' = true <;> simp only [hk', if_true, if_false] at h2'
            · exact h2.apart o o' b hne h1 h2'
            · simp at h2'
          · simp at h1
        stab := fun o b hb hs => by
          by_cases hk : K o = true <;> simp only [hk, if_true, if_false] at hb
          · rcases hs with hs | ⟨o', hk', hs⟩
            · exact h2.stab o b hb hs
            · refine h2.apart o o' b (fun e => ?_) hb hs
              rw [e, hk'] at hk; cases hk
          · simp at hb
        own := fun o b hb => by
          by_cases hk : K o = true <;> simp only [hk, if_true, if_false] at hb
          · exact (h2.own o b hb).2
          · simp at hb
        sbd := fun b hb => by
          rcases hb with hb | ⟨o, _, hb⟩
          · exact (h2.sbd b hb).1
          · exact (h2.own o b hb).2 }
    · exact fun b hb => .inl (h2.ssub b hb)
    · rintro b (hb | ⟨o, _, hb⟩)
      · exact hsub b hb
      · rcases hown o b hb with h1 | h1
        · exact .inr (.inl h1)
        · exact .inr (.inr h1)
    · intro o b hb
      by_cases hk : K o = true <;> simp only [hk, if_true, if_false] at hb
      · exact hown o b hb
      · simp at hb
    · intro o g x hx
      have := h2.mle o g x hx
      by_cases hk : K o = true
      · simpa [muK, hk] using this
      · have hk' : K o = false := by simpa using hk
        have h3 := ho.gens o
        rw [hK o hk'] at h3
        have : G.μ o = [] := List.eq_nil_of_length_eq_zero h3
        rw [this] at hx; simp at hx
    · exact ⟨h2.fr.os, h2.fr.tape, h2.fr.output, h2.fr.size, h2.fr.block⟩
  cases e with
  | ret => exact fin hq
  | normal => exact fin hq
  | exit id => exact hq.elim
  | goto l => exact hq.elim
  | panic ch => exact hq.elim
  | outgrown => exact hq.elim

theorem Ret.retO {P : Program} {fn : Func} {r : AV} {e : Exit} {σ : St} (h : Ret P fn r e σ) : RetO P fn r kNone (fun _ => (0, none)) e σ := by
  cases e <;> first | exact h.elim | exact ⟨h, fun o hk => absurd hk (by simp [kNone]), fun _ _ => rfl⟩

theorem pcall_of_ocall {P : Program} {f : FuncId} {args : List AV} {r : AV} (h : OCall P f args (fun _ => (0, none)) r (fun _ => (0, none))) : PCall P f args r := by
  intro w S vs hS ha
  refine (h w ⟨Mu.none, S, fun _ => []⟩ vs ⟨fun o => rfl, fun o n mo ho => by simp at ho, fun o o' b _ hb => by simp at hb, fun o b hb => by simp at hb, fun o b hb => by simp at hb, hS⟩ ha).mono ?_
  rintro e w' ⟨v, G', rfl, hr, ho, h1, h2, h3, h4, h5⟩
  have hmu : G'.μ = Mu.none := funext fun o => List.eq_nil_of_length_eq_zero (ho.gens o)
  rw [hmu] at hr
  refine ⟨v, rfl, ⟨G'.S, h1, fun b hb => ?_, hr⟩, ⟨h5.os, h5.tape, h5.output, h5.size, fun k hk => h5.block k hk fun ⟨o, ho⟩ => by simp at ho⟩⟩
  rcases h2 b hb with h6 | h6 | ⟨o, h6⟩
  · exact .inl h6
  · exact .inr ⟨h6, ho.sbd b hb⟩
  · simp at h6

/-- A contract out of a walk. -/
theorem pcall_of {P : Program} {f : FuncId} {fn : Func} {body : Code} {args : List AV} {r : AV} (hf : P.funcs[f]? = some fn) (hb : fn.body = some body)
    (h : ∀ w0 F S0 M0, AWs ⟨P, w0, F, S0, max args.length fn.ntmps, none, M0⟩ [body] (Ret P fn r) (St.init args)) : PCall P f args r :=
  pcall_of_ocall (ocall_of kNone hf hb (fun _ _ => rfl) fun w0 F S0 M0 => aws_mono (fun e s hq => hq.retO) (h w0 F S0 M0))

/-! ### Calling -/

/-- what is known of a slot says this, purely -/
def Ent (a b : AV) : Prop := ∀ μ X v, a.holds μ X v → b.holds Mu.none X v
theorem Ent.p {x : PVal} : Ent (.p x) (.p x) := fun μ X v h => h
theorem Ent.nil {es : Nat} {ex : Bool} : Ent (.p (.v (.slice none 0 0))) (.p (.sl es [] ex)) := by
  rintro μ X v ⟨rfl, _⟩
  exact ⟨none, 0, rfl, Nat.le_refl _, by simp [maxLen], fun _ => rfl, rfl, rfl⟩
theorem Ent.ex {es : Nat} {rows : List (List PVal)} : Ent (.p (.sl es rows true)) (.p (.sl es rows false)) := by
  rintro μ X v ⟨base, cap, h1, h2, h3, h4, h5⟩
  exact ⟨base, cap, h1, h2, h3, by simp, h5⟩
def AC.isP : AC → Bool | .p _ => true | _ => false
theorem AC.holds.none {μ : Mu} {X : Wd} {c : AC} {v : Value} (hc : c.isP = true) (h : c.holds μ X v) : c.holds Mu.none X v := by
  cases c <;> simp_all [AC.isP, AC.holds]
theorem Ent.agg {cs : List AC} (h : ∀ c ∈ cs, c.isP = true) : Ent (.a cs) (.a cs) := by
  rintro μ X v ⟨arr, rfl, h1⟩
  refine ⟨arr, rfl, h1.1, fun i c x hc hx => (h1.2 i c x hc hx).none (h c (List.mem_of_getElem? hc))⟩

theorem calls_frame {C : Ctx} {σ : St} {a : Act} {w : World} {G : Gh} (h : RelG C σ a w G) {f : FuncId} {args : List AV} {r : AV} (hc : PCall C.P f args r) {vs : List Value} (hv : All2 (AV.holds Mu.none ⟨w, G.S⟩) args vs)
    {d : Option Nat} (hd : dOk C d = true) {K : Act → World → Prop} {Q : Exit → Act → World → Prop} (hK : ∀ a' w', Rel C (σ.set d r) a' w' → K a' w') :
    Calls C.P f vs.toArray w fun
      | .returned v, w'' => K (a.put d v) w''
      | .panicked chain, w'' => Q (.panic chain) a w''
      | .outgrown, _ => LetsOut Q := by
  refine (hc w G.S vs (fun b hb => (h.sbd b hb).1) hv).mono ?_
  rintro e w' ⟨v, rfl, ⟨S', hS1, hS2, hr⟩, hb⟩
  have h1 := h.world (Quiet.of_below hb) (fun b => w.heap.size ≤ b ∧ b < w'.heap.size) (fun b hb => hb)
  exact hK _ _ ⟨_, h1.setv hd (hr.mono (Mu.none_le _) fun b hb' => ⟨hS2 b hb', rfl⟩)⟩

theorem lop_call {C : Ctx} {o : Oper} {σ : St} {f : FuncId} {as : Array Operand} {ts : Array TypeId} {args : List AV} {r : AV} [hfn : FnT C.P f] (ho : o.op = .call ⟨.value (.func f), as, ts⟩)
    (hE : All2 Ent (as.toList.map σ.look) args) (hc : PCall C.P f args r) (hd : dOk C o.dst = true) : LOp C o σ ⟨r, []⟩ (fun _ => false) := by
  refine ⟨fun x m h => by simp at h, fun τ hl hm a w ⟨G, h⟩ K Q hK => ?_⟩
  have hE' : All2 Ent (as.toList.map τ.look) args := by
    have : as.toList.map τ.look = as.toList.map σ.look := List.map_congr_left fun x hx => hl x (by rw [ho]; simp [Op.operands, Call.operands]; right; simpa using hx)
    rw [this]; exact hE
  have hv : All2 (AV.holds Mu.none ⟨w, G.S⟩) args (as.toList.map a.eval) := by
    refine ⟨by have := hE'.1; simpa using this.symm, fun i av v hav hvv => ?_⟩
    rw [List.getElem?_map] at hvv
    cases hx : as.toList[i]? with
    | none => rw [hx] at hvv; cases hvv
    | some x =>
      rw [hx] at hvv; simp at hvv; subst hvv
      exact hE'.2 i (τ.look x) av (by simp [List.getElem?_map, hx]) hav _ _ _ (h.look x)
  obtain ⟨fn, h1, h2, h3⟩ := hfn.fn
  have hrun : (execOp a.eval o).run C.P w = .ok (.enter f (as.map a.eval)) w := by
    have e1 : a.eval (.func f) = .func (.func f) #[] #[] := rfl
    have hname : (fn.name == "runtime.NumGoroutine") = false := h2
    cases hbody : fn.body with
    | none => simp [hbody] at h3
    | some c => simp [execOp, ho, resolve, e1, Deferred.ofValue, invoke, callFunc, program, Sem.run, Sem.run_bind, h1, hbody, pure, show ¬ fn.name = "runtime.NumGoroutine" from by simpa using hname]
  refine wpIn_exec (by rw [ho]; intro c h; cases h) ?_
  rw [hrun, Oper.uponIn_enter]
  have h9 := calls_frame h hc hv (d := o.dst) hd (K := K) (Q := Q) hK
  have e : (as.toList.map a.eval).toArray = as.map a.eval := by rw [← Array.toList_map]
  rw [e] at h9
  exact ⟨by simp [fz, Fence.wide], (callsIn_wide (n := 0)).2 h9⟩
end Go.Aw
