/- THE ABSTRACT WALK, part 5: operations that make and write memory. -/
import Derived.Test.YtbhcdkhejgkhaaaCoreD
namespace Go.Aw
open Go Go.RowKit
set_option linter.unusedVariables false
set_option linter.unusedSimpArgs false

section ops
variable {C : Ctx} {o : Oper} {σ : St}

/-- an object comes to a new generation -/
theorem lop_gen {ob n : Nat} {mo0 : Option MO} {mo' : MO} {av : AV} {ro : Nat → Bool} (hro : ro ob = true) (hd : dOk C o.dst = true) (hm : σ.mem ob = (n, mo0))
    (h : ∀ τ a w G, (∀ x, x ∈ o.op.operands → τ.look x = σ.look x) → (∀ x, ro x = true → τ.mem x = σ.mem x) → RelG C τ a w G →
      ∃ v w' m fp', (execOp a.eval o).run C.P w = .ok (.value v) w' ∧ w'.os = w.os ∧ w'.tape = w.tape ∧ w'.output = w.output ∧ w.heap.size ≤ w'.heap.size ∧
        (∀ k, k < w.heap.size → k ∉ G.φ ob → w'.heap[k]? = w.heap[k]?) ∧ (∀ b, b ∈ fp' → (b ∈ G.φ ob ∨ w.heap.size ≤ b) ∧ b < w'.heap.size) ∧
        mo'.holds (fun x => if x = ob then G.μ ob ++ [m] else G.μ x) ⟨w', G.S⟩ m fp' ∧ av.holds (fun x => if x = ob then G.μ ob ++ [m] else G.μ x) ⟨w', G.S⟩ v) :
    LOp C o σ ⟨av, [(ob, (n + 1, some mo'))]⟩ ro := by
  refine ⟨fun x m h => by simp at h; obtain ⟨rfl, _⟩ := h; exact hro, fun τ hl hm' a w ⟨G, hG⟩ K Q hK => ?_⟩
  obtain ⟨v, w', m, fp', hv, h1, h2, h3, h4, h5, h6, h7, h8⟩ := h τ a w G hl hm' hG
  have hlen : (G.μ ob).length = n := by have := hG.gens ob; rw [hm' ob hro, hm] at this; exact this
  refine wpIn_exec (notDefer hv (by first | (intro d h; cases h; done) | (rcases h0 with rfl | ⟨rfl, _⟩ <;> intro d h <;> cases h))) ?_
  rw [hv]
  have hu := hG.upd (o := ob) (n' := n + 1) (mo' := some mo') (μo := G.μ ob ++ [m]) (fp' := fp') (fun g x hx => by
    rw [List.getElem?_append_left (List.getElem?_eq_some_iff.1 hx).1]; exact hx) (by simp [hlen]) h1 h2 h3 h4 h5 h6 (fun mo hmo => by
      obtain rfl := Option.some.inj hmo
      exact ⟨n, m, rfl, by simp [hlen], h7⟩)
  exact hK _ _ ⟨_, hu.setv hd h8⟩

/-- an object's content turns, in its own blocks -/
theorem lop_same {ob n : Nat} {mo0 mo' : MO} {av : AV} {ro : Nat → Bool} (hro : ro ob = true) (hd : dOk C o.dst = true) (hm : σ.mem ob = (n, some mo0))
    (h : ∀ τ a w G g m, (∀ x, x ∈ o.op.operands → τ.look x = σ.look x) → (∀ x, ro x = true → τ.mem x = σ.mem x) → RelG C τ a w G → n = g + 1 → (G.μ ob)[g]? = some m → mo0.holds G.μ ⟨w, G.S⟩ m (G.φ ob) →
      ∃ nx v w', (execOp a.eval o).run C.P w = .ok nx w' ∧ (nx = .value v ∨ nx = .skip ∧ v = undef) ∧ w'.os = w.os ∧ w'.tape = w.tape ∧ w'.output = w.output ∧ w.heap.size = w'.heap.size ∧
        (∀ k, k < w.heap.size → k ∉ G.φ ob → w'.heap[k]? = w.heap[k]?) ∧ mo'.holds G.μ ⟨w', G.S⟩ m (G.φ ob) ∧ av.holds G.μ ⟨w', G.S⟩ v) :
    LOp C o σ ⟨av, [(ob, (n, some mo'))]⟩ ro := by
  refine ⟨fun x m h => by simp at h; obtain ⟨rfl, _⟩ := h; exact hro, fun τ hl hm' a w ⟨G, hG⟩ K Q hK => ?_⟩
  have hmo : τ.mem ob = (n, some mo0) := by rw [hm' ob hro]; exact hm
  obtain ⟨g, m, hn, hmm, hh⟩ := hG.mem ob n mo0 hmo
  obtain ⟨nx, v, w', hv, h0, h1, h2, h3, h4, h5, h7, h8⟩ := h τ a w G g m hl hm' hG hn hmm hh
  have hlen : (G.μ ob).length = n := by have := hG.gens ob; rw [hmo] at this; exact this
  have e : (fun x => if x = ob then G.μ ob else G.μ x) = G.μ := by funext x; by_cases hx : x = ob <;> simp [hx]
  have hu := hG.upd (o := ob) (n' := n) (mo' := some mo') (μo := G.μ ob) (fp' := G.φ ob) (w' := w') (fun g x hx => hx) hlen h1 h2 h3 (Nat.le_of_eq h4) h5 (fun b hb => ⟨.inl hb, by have := (hG.own ob b hb).2; omega⟩) (fun mo hmo => by
      obtain rfl := Option.some.inj hmo
      exact ⟨g, m, hn, hmm, by rw [e]; exact h7⟩)
  rw [e] at hu
  refine wpIn_exec (notDefer hv (by first | (intro d h; cases h; done) | (rcases h0 with rfl | ⟨rfl, _⟩ <;> intro d h <;> cases h))) ?_
  rw [hv]
  rcases h0 with rfl | ⟨rfl, rfl⟩
  · exact hK _ _ ⟨_, hu.setv hd h8⟩
  · exact hK _ _ ⟨_, hu.setv hd h8⟩

theorem mu_new {μ : Mu} {ob n : Nat} {m : Option Nat × Nat} (hlen : (μ ob).length = n) : ((fun x => if x = ob then μ ob ++ [m] else μ x : Mu) ob)[n]? = some m := by simp [← hlen]
theorem mu_le {μ : Mu} {ob : Nat} {m : Option Nat × Nat} : μ.le (fun x => if x = ob then μ ob ++ [m] else μ x) := fun x g y hy => by
  by_cases hx : x = ob
  · subst hx
    simp only [if_true]
    rw [List.getElem?_append_left (List.getElem?_eq_some_iff.1 hy).1]; exact hy
  · simpa [hx] using hy

theorem wle_alloc {w : World} {S : Nat → Prop} (hS : ∀ b, S b → b < w.heap.size) (ob : Obj) : Wd.le ⟨w, S⟩ ⟨w.alloc ob, S⟩ := fun b hb => ⟨hb, Below.heap_alloc w ob b (hS b hb)⟩

/-- a new variable with a value -/
theorem lop_box {T : TypeId} {x : Operand} {d n : Nat} {mo0 : Option MO} {s : SV} (ho : o.op = .box T x) (hdst : o.dst = some d) (hx : σ.look x = .s s) (hm : σ.mem d = (n, mo0)) (hd : dOk C o.dst = true) :
    LOp C o σ ⟨.o (.ptr d n 0), [(d, (n + 1, some (.box T s.cells)))]⟩ (fun y => y == d) :=
  lop_gen (by simp) hd hm fun τ a w G hl hm' h => by
    have h1 : s.holds G.μ ⟨w, G.S⟩ (a.eval x) := look_of h ((hl x (by simp [ho, Op.operands])).trans hx)
    have hlen : (G.μ d).length = n := by have := h.gens d; rw [hm' d (by simp), hm] at this; exact this
    refine ⟨.pointer (some ⟨w.heap.size, 0, none⟩), w.alloc (.cells (a.eval x).cells T), (some w.heap.size, 0), [w.heap.size], ?_, rfl, rfl, rfl, by simp, fun k hk _ => Below.heap_alloc w _ k hk, ?_, ?_, ?_⟩
    · simp only [execOp, ho, Instr.box, newVar, newRow, Sem.run_bind, run_newObj_alloc, Sem.run_pure, Result.andThen_ok]
    · simp
    · refine ⟨w.heap.size, (a.eval x).cells.toList, rfl, rfl, ?_, ?_⟩
      · simpa using heap_alloc_new w _
      · exact h1.cells.mono fun _ _ k => k.mono mu_le (wle_alloc (fun b hb => (h.sbd b hb).1) _)
    · exact ⟨w.heap.size, 0, mu_new hlen, rfl⟩

/-- a new variable -/
theorem lop_alloc {T : TypeId} {d n : Nat} {mo0 : Option MO} {z : List Value} [hz : TZ C.P T z] (ho : o.op = .alloc T) (hdst : o.dst = some d) (hm : σ.mem d = (n, mo0)) (h1 : z.all (·.oneCell') = true) (hd : dOk C o.dst = true) :
    LOp C o σ ⟨.o (.ptr d n 0), [(d, (n + 1, some (.box T (z.map fun v => .p (.v v)))))]⟩ (fun y => y == d) :=
  lop_gen (by simp) hd hm fun τ a w G hl hm' h => by
    have hlen : (G.μ d).length = n := by have := h.gens d; rw [hm' d (by simp), hm] at this; exact this
    have hzz := hz.zero
    cases hi : C.P.info? T with
    | none => simp [hi] at hzz
    | some i =>
      simp only [hi, Option.bind_some] at hzz
      cases hz0 : i.zero with
      | none => simp [hz0] at hzz
      | some zv =>
        simp only [hz0, Option.map_some, Option.some.injEq] at hzz
        refine ⟨.pointer (some ⟨w.heap.size, 0, none⟩), w.alloc (.cells zv.cells T), (some w.heap.size, 0), [w.heap.size], ?_, rfl, rfl, rfl, by simp, fun k hk _ => Below.heap_alloc w _ k hk, ?_, ?_, ?_⟩
        · simp [execOp, ho, Instr.alloc, zeroValue, typeInfo, hi, hz0, newVar, newRow]
        · simp
        · refine ⟨w.heap.size, z, rfl, rfl, ?_, ?_⟩
          · rw [← hzz]; simpa using heap_alloc_new w _
          · refine ⟨by simp, fun j c v hc hv => ?_⟩
            rw [List.getElem?_map, hv] at hc
            simp at hc; subst hc
            exact ⟨rfl, by have := List.all_eq_true.1 h1 v (List.mem_of_getElem? hv); simpa using this⟩
        · exact ⟨w.heap.size, 0, mu_new hlen, rfl⟩

theorem run_storeVar {P : Program} {T : TypeId} {k : TK} {sz by_ : Nat} (hT : TI P T k sz by_) {w : World} {b off : Nat} {arr : List Value} {ty : TypeId} (h : w.heap[b]? = some (.cells arr.toArray ty (0, 0))) {v : Value}
    (hl : off + sz ≤ arr.length) (hs : v.cells.size = sz) (h1 : ∀ u ∈ v.cells.toList, u.oneCell' = true) :
    (storeVar T ⟨b, off, none⟩ v).run P w = .ok () (w.setRow b (arr.take off ++ v.cells.toList ++ arr.drop (off + sz)).toArray) := by
  have hst := run_storeCells_at P b off ty v.cells.toList 0 arr.toArray w h (by simp; omega) h1
  simp only [Nat.add_zero, Array.length_toList, hs] at hst
  simp [storeVar, hT.run_sizeOf, hs, hst]

theorem setRow_frame {w : World} {b : Nat} {cs : Array Value} : (w.setRow b cs).os = w.os ∧ (w.setRow b cs).tape = w.tape ∧ (w.setRow b cs).output = w.output ∧ w.heap.size = (w.setRow b cs).heap.size :=
  ⟨rfl, rfl, rfl, by simp⟩

/-- a store into a variable's part -/
theorem lop_store {T : TypeId} {x y : Operand} {k : TK} {sz by_ : Nat} [hT : TI C.P T k sz by_] {ob g off n : Nat} {ty : TypeId} {cs : List AC} {s : SV} (ho : o.op = .store T x y) (hdst : o.dst = none) (hx : σ.look x = .o (.ptr ob g off)) (hy : σ.look y = .s s)
    (hm : σ.mem ob = (n, some (.box ty cs))) (hn : n = g + 1) (hl : off + sz ≤ cs.length) (hs : s.cells.length = sz) :
    LOp C o σ ⟨.un, [(ob, (n, some (.box ty (cs.take off ++ s.cells ++ cs.drop (off + sz)))))]⟩ (fun z => z == ob) :=
  lop_same (by simp) (by rw [hdst]; rfl) hm fun τ a w G g' m hl' hm' h hn' hmm hh => by
    obtain rfl : g = g' := by omega
    obtain ⟨b, c, h1, h2⟩ := look_of h ((hl' x (by simp [ho, Op.operands])).trans hx)
    have h3 : s.holds G.μ ⟨w, G.S⟩ (a.eval y) := look_of h ((hl' y (by simp [ho, Op.operands])).trans hy)
    obtain ⟨b', arr, h4, h5, h6, h7⟩ := hh
    rw [h1] at hmm; obtain rfl := Option.some.inj hmm
    simp only [Option.some.injEq] at h4; subst h4
    have h8 := h3.cells
    have hvs : (a.eval y).cells.size = sz := by have := h8.1; rw [hs] at this; simpa using this.symm
    have h9 : ∀ u ∈ (a.eval y).cells.toList, u.oneCell' = true := fun u hu => by
      obtain ⟨i, hi, hu'⟩ := List.mem_iff_getElem.1 hu
      have hi' : i < s.cells.length := by rw [h8.1]; exact hi
      exact (h8.2 i s.cells[i] u (by simp [hi']) (by rw [← hu']; exact List.getElem?_eq_getElem _)).one
    have hr := run_storeVar hT h6 (off := off) (v := a.eval y) (by rw [← h7.1]; exact hl) hvs h9
    have hle : Wd.le ⟨w, G.S⟩ ⟨w.setRow b (arr.take off ++ (a.eval y).cells.toList ++ arr.drop (off + sz)).toArray, G.S⟩ := fun k hk =>
      ⟨hk, setRow_other w b k _ fun e => h.stab ob b (by rw [h5]; simp) (e ▸ hk)⟩
    refine ⟨.skip, undef, w.setRow b (arr.take off ++ (a.eval y).cells.toList ++ arr.drop (off + sz)).toArray, ?_, .inr ⟨rfl, rfl⟩, setRow_frame.1, setRow_frame.2.1, setRow_frame.2.2.1, setRow_frame.2.2.2,
      fun k _ hk => setRow_other w b k _ fun e => hk (by rw [h5, e]; simp), ⟨b, _, rfl, h5, setRow_heap w b _ _ ty _ h6, ?_⟩, trivial⟩
    · simp only [execOp, ho, h2, Instr.storeAt, Instr.sureAddr, Sem.run_bind, Sem.run_pure, Result.andThen_ok, hr]
    · exact (((h7.take off).append h8).append (h7.drop (off + sz))).mono fun _ _ k => k.mono (Mu.le.refl _) hle
theorem lop_store_one {T : TypeId} {x y : Operand} {k : TK} {sz by_ : Nat} [hT : TI C.P T k sz by_] {ob g off n : Nat} {ty : TypeId} {cs : List AC} {c : AC} (ho : o.op = .store T x y) (hdst : o.dst = none) (hx : σ.look x = .o (.ptr ob g off)) (hy : σ.look y = .o c)
    (hm : σ.mem ob = (n, some (.box ty cs))) (hn : n = g + 1) (hl : off < cs.length) (hs : sz = 1) :
    LOp C o σ ⟨.un, [(ob, (n, some (.box ty (cs.set off c))))]⟩ (fun z => z == ob) := by
  have := lop_store (o := o) (hT := hT) (s := .one c) ho hdst hx hy hm hn (by omega) (by simp [SV.cells, hs])
  simp only [SV.cells, hs] at this
  simpa [List.set_eq_take_append_cons_drop, hl] using this
theorem lop_store_all {T : TypeId} {x y : Operand} {k : TK} {sz by_ : Nat} [hT : TI C.P T k sz by_] {ob g n : Nat} {ty : TypeId} {cs ds : List AC} (ho : o.op = .store T x y) (hdst : o.dst = none) (hx : σ.look x = .o (.ptr ob g 0)) (hy : σ.look y = .a ds)
    (hm : σ.mem ob = (n, some (.box ty cs))) (hn : n = g + 1) (hl : cs.length = sz) (hs : ds.length = sz) :
    LOp C o σ ⟨.un, [(ob, (n, some (.box ty ds)))]⟩ (fun z => z == ob) := by
  have := lop_store (o := o) (hT := hT) (s := .agg ds) ho hdst hx hy hm hn (by omega) (by simp [SV.cells, hs])
  simpa [SV.cells, List.drop_of_length_le (Nat.le_of_eq hl)] using this

/-! ### Structs, arrays and slices written out -/

/-- the cells of a composite: its zero value's, each part's laid over them -/
def bfill (place : Nat → Option (Nat × Nat)) (cells : List AC) : List (Nat × List AC) → Option (List AC)
  | [] => some cells
  | (i, v) :: rest => match place i with
    | none => none
    | some (off, size) => if v.length = size ∧ off + size ≤ cells.length then bfill place (cells.take off ++ v ++ cells.drop (off + size)) rest else none

theorem foldl_set (vs : List Value) : ∀ (off : Nat) (arr : Array Value), off + vs.length ≤ arr.size →
    ((vs.zipIdx 0).foldl (fun cs (p : Value × Nat) => cs.setIfInBounds (off + p.2) p.1) arr).toList = arr.toList.take off ++ vs ++ arr.toList.drop (off + vs.length) := by
  suffices h : ∀ (vs : List Value) (k off : Nat) (arr : Array Value), off + k + vs.length ≤ arr.size →
      ((vs.zipIdx k).foldl (fun cs (p : Value × Nat) => cs.setIfInBounds (off + p.2) p.1) arr).toList = arr.toList.take (off + k) ++ vs ++ arr.toList.drop (off + k + vs.length) by
    intro off arr hl; simpa using h vs 0 off arr (by simpa using hl)
  intro vs
  induction vs with
  | nil => intro k off arr hl; simp
  | cons v vs ih =>
    intro k off arr hl
    simp only [List.length_cons] at hl
    simp only [List.zipIdx_cons, List.foldl_cons]
    rw [ih (k + 1) off _ (by simp; omega)]
    simp only [Array.toList_setIfInBounds, List.length_cons]
    have h1 : (arr.toList.set (off + k) v).take (off + (k + 1)) = arr.toList.take (off + k) ++ [v] := by
      rw [show off + (k + 1) = off + k + 1 from by omega, List.take_succ_eq_append_getElem (by simp; omega)]
      simp [List.take_set_of_le]
    have h2 : (arr.toList.set (off + k) v).drop (off + (k + 1) + vs.length) = arr.toList.drop (off + k + (vs.length + 1)) := by
      rw [List.drop_set_of_lt (by omega)]; congr 1; omega
    rw [h1, h2]; simp

theorem fill_run {μ : Mu} {X : Wd} {place : Nat → Option (Nat × Nat)} : ∀ {parts : List (Nat × List AC)} {vs : List (Nat × Value)} {cells : List AC} {arr : Array Value} {out : List AC},
    All2 (fun (p : Nat × List AC) (v : Nat × Value) => p.1 = v.1 ∧ All2 (AC.holds μ X) p.2 v.2.cells.toList) parts vs → All2 (AC.holds μ X) cells arr.toList → bfill place cells parts = some out →
    ∃ arr', Instr.fill place arr vs = some arr' ∧ All2 (AC.holds μ X) out arr'.toList
  | [], vs, cells, arr, out, hp, hc, hb => by
    obtain rfl := hp.nil_inv
    simp [bfill] at hb; subst hb
    exact ⟨arr, rfl, hc⟩
  | (i, p) :: parts, vs, cells, arr, out, hp, hc, hb => by
    obtain ⟨⟨i', v⟩, vs', rfl, ⟨h1, h2⟩, h3⟩ := hp.cons_inv
    simp only at h1 h2; subst h1
    simp only [bfill] at hb
    cases hpl : place i with
    | none => simp [hpl] at hb
    | some os =>
      obtain ⟨off, size⟩ := os
      simp only [hpl] at hb
      split at hb
      · rename_i hcond
        have hvl : v.cells.size = size := by have := h2.1; rw [hcond.1] at this; simpa using this.symm
        have hal : off + v.cells.size ≤ arr.size := by have := hc.1; simp at this; omega
        have hf := foldl_set v.cells.toList off arr (by simpa using hal)
        have hnew : All2 (AC.holds μ X) (cells.take off ++ p ++ cells.drop (off + size)) (v.cells.zipIdx.foldl (fun cs (c, j) => cs.setIfInBounds (off + j) c) arr).toList := by
          have e : v.cells.zipIdx.foldl (fun cs (c, j) => cs.setIfInBounds (off + j) c) arr = (v.cells.toList.zipIdx 0).foldl (fun cs (p : Value × Nat) => cs.setIfInBounds (off + p.2) p.1) arr := by
            rw [← Array.foldl_toList, Array.toList_zipIdx]
          rw [e, hf]
          have hvl' : v.cells.toList.length = size := by simpa using hvl
          rw [hvl']
          exact ((hc.take off).append h2).append (hc.drop (off + size))
        obtain ⟨arr', h4, h5⟩ := fill_run (place := place) h3 hnew hb
        refine ⟨arr', ?_, h5⟩
        simp only [Instr.fill, hpl]
        rw [if_neg (by simp [hvl]; omega)]
        exact h4
      · cases hb

theorem parts_hold {τ : St} {a : Act} {w : World} {G : Gh} (h : RelG C τ a w G) {parts : List (Nat × Operand)} {ps : List (Nat × List AC)} (hp : All2 (fun (x : Nat × Operand) (p : Nat × List AC) => x.1 = p.1 ∧ ∃ s, τ.look x.2 = .s s ∧ s.cells = p.2) parts ps) :
    All2 (fun (p : Nat × List AC) (v : Nat × Value) => p.1 = v.1 ∧ All2 (AC.holds G.μ ⟨w, G.S⟩) p.2 v.2.cells.toList) ps (parts.map fun (i, x) => (i, a.eval x)) := by
  refine ⟨by simp [hp.1], fun i p v hpi hv => ?_⟩
  rw [List.getElem?_map] at hv
  cases hx : parts[i]? with
  | none => rw [hx] at hv; cases hv
  | some x =>
    rw [hx] at hv; simp at hv; subst hv
    obtain ⟨h1, s, h2, h3⟩ := hp.2 i x p hx hpi
    have h4 : s.holds G.μ ⟨w, G.S⟩ (a.eval x.2) := look_of h h2
    exact ⟨h1.symm, h3 ▸ h4.cells⟩

/-- the places of a struct's fields: offset and size -/
class TF (P : Program) (T : TypeId) (fs : outParam (List (Nat × Nat))) : Prop where
  fields : (match P.underlying T with | some (.struct fields) => fields.toList.mapM (fun f => (P.info? f.type).map fun i => (f.offset, i.size)) | _ => none) = some fs

theorem build_go {T : TypeId} {parts : Array (Nat × Operand)} {place : Nat → Option (Nat × Nat)} {z : List Value} [hz : TZ C.P T z] {ps : List (Nat × List AC)} {cs : List AC} (ho : o.op = .build T parts)
    (hbt : ∀ (zv : Value) (i : TypeInfo) l, C.P.info? T = some i → i.zero = some zv → C.P.built T l = Instr.fill place zv.cells l)
    (hp : All2 (fun (x : Nat × Operand) (p : Nat × List AC) => x.1 = p.1 ∧ ∃ s, σ.look x.2 = .s s ∧ s.cells = p.2) parts.toList ps) (h1 : z.all (·.oneCell') = true)
    (hb : bfill place (z.map fun v => .p (.v v)) ps = some cs) (hd : dOk C o.dst = true) : LOp C o σ ⟨.a cs, []⟩ (fun _ => false) :=
  lop_val hd fun τ a w G hl hm' h => by
    have hzz := hz.zero
    cases hi : C.P.info? T with
    | none => simp [hi] at hzz
    | some i =>
      simp only [hi, Option.bind_some] at hzz
      cases hz0 : i.zero with
      | none => simp [hz0] at hzz
      | some zv =>
        simp only [hz0, Option.map_some, Option.some.injEq] at hzz
        have hp' : All2 (fun (x : Nat × Operand) (p : Nat × List AC) => x.1 = p.1 ∧ ∃ s, τ.look x.2 = .s s ∧ s.cells = p.2) parts.toList ps := by
          refine ⟨hp.1, fun j x p hx hpp => ?_⟩
          obtain ⟨k1, s, k2, k3⟩ := hp.2 j x p hx hpp
          refine ⟨k1, s, ?_, k3⟩
          rw [hl x.2 ?_]; exact k2
          simp only [ho, Op.operands, List.mem_toArray, List.mem_map]
          exact ⟨x, List.mem_of_getElem? hx, rfl⟩
        have hph := parts_hold h hp'
        have hzh : All2 (AC.holds G.μ ⟨w, G.S⟩) (z.map fun v => .p (.v v)) zv.cells.toList := by
          rw [hzz]
          refine ⟨by simp, fun j c v hc hv => ?_⟩
          rw [List.getElem?_map, hv] at hc
          simp at hc; subst hc
          exact ⟨rfl, by have := List.all_eq_true.1 h1 v (List.mem_of_getElem? hv); simpa using this⟩
        obtain ⟨arr', h4, h5⟩ := fill_run hph hzh hb
        have hparts : (parts.map fun (i, x) => (i, a.eval x)).toList = parts.toList.map fun (i, x) => (i, a.eval x) := by simp
        have hbu := run_build (P := C.P) w T (parts.map fun (i, x) => (i, a.eval x)) arr' (by rw [hbt zv i _ hi hz0, hparts]; exact h4)
        refine ⟨.agg arr', ?_, arr'.toList, by simp, h5⟩
        simp only [execOp, ho, Sem.run_bind, hbu, Result.andThen_ok, Sem.run_pure]

theorem lop_build {T : TypeId} {parts : Array (Nat × Operand)} {fs : List (Nat × Nat)} [hF : TF C.P T fs] {z : List Value} [hz : TZ C.P T z] {ps : List (Nat × List AC)} {cs : List AC} (ho : o.op = .build T parts)
    (hp : All2 (fun (x : Nat × Operand) (p : Nat × List AC) => x.1 = p.1 ∧ ∃ s, σ.look x.2 = .s s ∧ s.cells = p.2) parts.toList ps) (h1 : z.all (·.oneCell') = true)
    (hb : bfill (fun i => fs[i]?) (z.map fun v => .p (.v v)) ps = some cs) (hd : dOk C o.dst = true) : LOp C o σ ⟨.a cs, []⟩ (fun _ => false) :=
  build_go ho (fun zv i l hi hz0 => by
    have hf := hF.fields
    cases hu : C.P.underlying T with
    | none => simp [hu] at hf
    | some d =>
      cases d <;> simp only [hu] at hf <;> try (cases hf; done)
      unfold Program.built
      simp only [hi, hu, hz0, hf]
      congr 1; funext i; simp) hp h1 hb hd

theorem lop_build_arr {T e : TypeId} {parts : Array (Nat × Operand)} {n sz by_ : Nat} [hT : TI C.P T (.array n e) sz by_] {ke : TK} {sze be : Nat} [he : TI C.P e ke sze be] {z : List Value} [hz : TZ C.P T z] {ps : List (Nat × List AC)} {cs : List AC} (ho : o.op = .build T parts)
    (hp : All2 (fun (x : Nat × Operand) (p : Nat × List AC) => x.1 = p.1 ∧ ∃ s, σ.look x.2 = .s s ∧ s.cells = p.2) parts.toList ps) (h1 : z.all (·.oneCell') = true)
    (hb : bfill (fun i => some (i * sze, sze)) (z.map fun v => .p (.v v)) ps = some cs) (hd : dOk C o.dst = true) : LOp C o σ ⟨.a cs, []⟩ (fun _ => false) :=
  build_go ho (fun zv i l hi hz0 => by
    obtain ⟨d, hdd, hkk⟩ := hT.undd
    have : d = .array n e := by cases d <;> simp [TK.of] at hkk; rw [hkk.1, hkk.2]
    subst this
    obtain ⟨ie, h7, h8, _⟩ := he.infoo
    unfold Program.built
    simp only [hi, hdd, hz0, h7, h8]) hp h1 hb hd

/-- parts of a slice literal, each at its place, in order -/
def rowsOf (ps : List (Nat × List PVal)) : List (List PVal) := ps.map (·.2)

theorem fill_slice {X : Wd} {μ : Mu} (es : Nat) : ∀ (ps : List (Nat × List PVal)) (vs : List (Nat × Value)) (k : Nat) (arr : Array Value),
    All2 (fun (p : Nat × List PVal) (v : Nat × Value) => p.1 = v.1 ∧ p.2.length = es ∧ All2 (fun (q : PVal) u => q.holds X u) p.2 v.2.cells.toList) ps vs → (∀ i p, ps[i]? = some p → p.1 = k + i) → (k + ps.length) * es ≤ arr.size →
    ∃ arr', Instr.fill (fun i => some (i * es, es)) arr vs = some arr' ∧ arr'.size = arr.size ∧ (∀ j, j < k * es → arr'[j]? = arr[j]?) ∧
      ∀ i p, ps[i]? = some p → ∀ j q, p.2[j]? = some q → ∃ u, arr'[(k + i) * es + j]? = some u ∧ q.holds X u
  | [], vs, k, arr, hp, _, _ => by
    obtain rfl := hp.nil_inv
    exact ⟨arr, rfl, rfl, fun _ _ => rfl, fun i p h => by simp at h⟩
  | (i0, p) :: ps, vs, k, arr, hp, hi, hl => by
    obtain ⟨⟨i', v⟩, vs', rfl, ⟨h1, h2, h2'⟩, h3⟩ := hp.cons_inv
    simp only at h1 h2 h2'
    have hk : i0 = k := by have := hi 0 (i0, p) rfl; simpa using this
    subst hk; subst h1
    have hvl : v.cells.size = es := by have := h2'.1; rw [h2] at this; simpa using this.symm
    simp only [List.length_cons] at hl
    have hke : i0 * es + es ≤ arr.size := by
      have : (i0 + (ps.length + 1)) * es = i0 * es + es + ps.length * es := by rw [show i0 + (ps.length + 1) = i0 + 1 + ps.length from by omega, Nat.add_mul, Nat.add_mul]; omega
      omega
    have hf := foldl_set v.cells.toList (i0 * es) arr (by simp [hvl]; omega)
    have e : v.cells.zipIdx.foldl (fun cs (c, j) => cs.setIfInBounds (i0 * es + j) c) arr = (v.cells.toList.zipIdx 0).foldl (fun cs (p : Value × Nat) => cs.setIfInBounds (i0 * es + p.2) p.1) arr := by
      rw [← Array.foldl_toList, Array.toList_zipIdx]
    generalize hA : v.cells.zipIdx.foldl (fun cs (c, j) => cs.setIfInBounds (i0 * es + j) c) arr = A at *
    rw [← e] at hf
    have hvl' : v.cells.toList.length = es := by simpa using hvl
    rw [hvl'] at hf
    have hAs : A.size = arr.size := by
      have := congrArg List.length hf
      simp [hvl] at this; omega
    have hAget : ∀ (j : Nat), A[j]? = (arr.toList.take (i0 * es) ++ v.cells.toList ++ arr.toList.drop (i0 * es + es))[j]? := fun j => by rw [← hf]; simp
    have hroom : (i0 + 1 + ps.length) * es ≤ A.size := by
      rw [hAs, show i0 + 1 + ps.length = i0 + (ps.length + 1) from by omega]; exact hl
    obtain ⟨arr', h4, h5, h6, h7⟩ := fill_slice (X := X) (μ := μ) es ps vs' (i0 + 1) A h3 (fun i q hq => by have := hi (i + 1) q (by simpa using hq); omega) hroom
    have htl : (arr.toList.take (i0 * es)).length = i0 * es := by simp; omega
    refine ⟨arr', ?_, h5.trans hAs, fun j hj => ?_, fun i q hq j r hr => ?_⟩
    · simp only [Instr.fill]
      rw [if_neg (by simp [hvl]; omega), hA]
      exact h4
    · rw [h6 j (by rw [Nat.add_mul]; omega), hAget j, List.append_assoc, List.getElem?_append_left (by rw [htl]; exact hj), List.getElem?_take, if_pos hj]
      simp
    · cases i with
      | zero =>
        simp at hq; subst hq
        obtain ⟨u, hu, hru⟩ := h2'.get hr
        have hjlt : j < es := by rw [← h2]; exact (List.getElem?_eq_some_iff.1 hr).1
        refine ⟨u, ?_, hru⟩
        simp only [Nat.add_zero]
        rw [h6 _ (by rw [Nat.add_mul]; omega), hAget, List.append_assoc, List.getElem?_append_right (by rw [htl]; omega), htl, List.getElem?_append_left (by rw [hvl']; omega)]
        rw [show i0 * es + j - i0 * es = j from by omega]; exact hu
      | succ i =>
        have := h7 i q (by simpa using hq) j r hr
        rw [show i0 + (i + 1) = i0 + 1 + i from by omega]; exact this

/-- a slice written out: its elements stay as they are -/
theorem lop_buildSlice {T e : TypeId} {n : Nat} {parts : Array (Nat × Operand)} {sz by_ : Nat} [hT : TI C.P T (.slice e) sz by_] {ke : TK} {sze be : Nat} [he : TI C.P e ke sze be] {z : List Value} [hz : TZ C.P e z] {ps : List (Nat × List PVal)} (ho : o.op = .buildSlice T n parts)
    (hp : All2 (fun (x : Nat × Operand) (p : Nat × List PVal) => x.1 = p.1 ∧ p.2.length = sze ∧ ∃ s, σ.look x.2 = .s s ∧ s.cells = p.2.map .p) parts.toList ps)
    (hi : ps.map (·.1) = List.range n) (hz0 : 0 < sze) (hsmall : n * sze ≤ 2 ^ 24) (hd : dOk C o.dst = true) : LOp C o σ ⟨.p (.sl sze (rowsOf ps) true), []⟩ (fun _ => false) :=
  lop_grow hd fun τ a w G hl hm' h => by
    have hzz := hz.zero
    cases hie : C.P.info? e with
    | none => simp [hie] at hzz
    | some i =>
      simp only [hie, Option.bind_some] at hzz
      cases hz0' : i.zero with
      | none => simp [hz0'] at hzz
      | some zv =>
        obtain ⟨d, hdd, hkk⟩ := hT.undd
        have : d = .slice e := by cases d <;> simp [TK.of] at hkk; rw [hkk]
        subst this
        have hpl : ps.length = n := by have := congrArg List.length hi; simpa using this
        have hidx : ∀ i p, ps[i]? = some p → p.1 = 0 + i := fun i p hpi => by
          have : (ps.map (·.1))[i]? = some p.1 := by rw [List.getElem?_map, hpi]; rfl
          rw [hi] at this
          have hlt : i < n := by rw [← hpl]; exact (List.getElem?_eq_some_iff.1 hpi).1
          simp [hlt] at this; omega
        have hph : All2 (fun (p : Nat × List PVal) (v : Nat × Value) => p.1 = v.1 ∧ p.2.length = sze ∧ All2 (fun (q : PVal) u => q.holds ⟨w, G.S⟩ u) p.2 v.2.cells.toList) ps (parts.toList.map fun (i, x) => (i, a.eval x)) := by
          refine ⟨by simp [← hp.1], fun j p v hpj hv => ?_⟩
          rw [List.getElem?_map] at hv
          cases hx : parts.toList[j]? with
          | none => rw [hx] at hv; cases hv
          | some x =>
            rw [hx] at hv; simp at hv; subst hv
            obtain ⟨k1, k2, s, k3, k4⟩ := hp.2 j x p hx hpj
            have h4 : s.holds G.μ ⟨w, G.S⟩ (a.eval x.2) := look_of h ((hl x.2 (by
              simp only [ho, Op.operands, List.mem_toArray, List.mem_map]
              exact ⟨x, List.mem_of_getElem? hx, rfl⟩)).trans k3)
            have h5 := h4.cells
            rw [k4] at h5
            refine ⟨k1.symm, k2, by have := h5.1; simpa using this, fun i q u hq hu => ?_⟩
            exact h5.2 i (.p q) u (by simp [hq]) hu
        obtain ⟨arr', h4, h5, _, h7⟩ := fill_slice (X := ⟨w, G.S⟩) (μ := G.μ) sze ps _ 0 ((Array.range (n * sze)).map (fun j => zv.cells[j % zv.cells.size]!)) hph hidx (by simp [hpl])
        refine ⟨.slice (some ⟨w.heap.size, 0, none⟩) n n, w.alloc (.cells arr' e), ?_, Quiet.alloc _ _, ?_⟩
        · have hparts : (parts.map fun (i, x) => (i, a.eval x)).toList = parts.toList.map fun (i, x) => (i, a.eval x) := by simp
          have h4' : Instr.fill (fun i => some (i * sze, sze)) ((Array.range (n * sze)).map (fun j => (if n * sze = 0 then #[] else zv.cells)[j % (if n * sze = 0 then #[] else zv.cells).size]!)) (parts.map fun (i, x) => (i, a.eval x)).toList = some arr' := by
            rw [hparts]
            by_cases hn0 : n * sze = 0
            · have e0 : ∀ f : Nat → Value, (Array.range 0).map f = #[] := fun f => by simp [Array.range]
              rw [hn0, e0] at h4 ⊢
              exact h4
            · simp only [hn0, if_false]; exact h4
          simp only [execOp, ho, Instr.buildSlice, Sem.run_bind, run_underlying hdd, Result.andThen_ok, he.run_sizeOf]
          rw [if_neg (by omega)]
          split
          · rename_i hn0
            simp only [hn0, if_true] at h4' ⊢
            simp only [Sem.run_bind, Result.andThen_ok, Sem.run_pure, h4', newRow, run_newObj_alloc]
          · rename_i hn0
            simp only [hn0, if_false] at h4'
            have hz1 : (zeroValue e).run C.P w = .ok zv w := by simp [zeroValue, typeInfo, hie, hz0']
            simp only [Sem.run_bind, hz1, Result.andThen_ok, Sem.run_pure, h4', newRow, run_newObj_alloc]
        · refine ⟨some ⟨w.heap.size, 0, none⟩, n, ?_, ?_, ?_, ?_, .inr ⟨rfl, ?_, arr', e, (0, 0), by simpa using heap_alloc_new w _, ?_⟩⟩
          · simp [rowsOf, hpl]
          · simp [rowsOf, hpl]
          · have : n ≤ n * sze := Nat.le_mul_of_pos_right n hz0
            simp only [maxLen]; omega
          · simp [rowsOf, hpl]
          · simp
          · intro i row hrow
            simp only [rowsOf, List.getElem?_map] at hrow
            cases hpi : ps[i]? with
            | none => rw [hpi] at hrow; cases hrow
            | some p =>
              rw [hpi] at hrow; simp at hrow; subst hrow
              have hi2 : i < parts.toList.length := by rw [hp.1]; exact (List.getElem?_eq_some_iff.1 hpi).1
              obtain ⟨_, k2, _⟩ := hp.2 i _ p (List.getElem?_eq_getElem hi2) hpi
              refine ⟨k2, fun j q hq => ?_⟩
              obtain ⟨u, hu, hqu⟩ := h7 i p hpi j q hq
              refine ⟨u, by simpa using hu, q.mono (fun b hb => ⟨.inl hb, Below.heap_alloc w _ b (h.sbd b hb).1⟩) hqu⟩
end ops
end Go.Aw
