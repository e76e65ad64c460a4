/- THE ABSTRACT WALK, part 31: own slices of structs: a place, loaded, stored, cut, cleared; a copy that grows. Nothing here speaks of a program. -/
import Derived.Test.YtacofbbclmbbeaaKj
namespace Go.Aw
open Go Go.RowKit
set_option linter.unusedVariables false
set_option linter.unusedSimpArgs false
section ops
variable {C : Ctx} {o : Oper} {σ : St}
/-- a place of a part of an own slice -/
theorem lop_ix_bl {α : Type} {f : α → List PVal} {l : List α} {T e : TypeId} {x ix : Operand} {sz by_ : Nat} {ke : TK} {sze be : Nat} {ob g n lo len ty : Nat} {k : IntKind} {i : Int}
    (ho : o.op = .indexAddr T x ix) (hT : TI C.P T (.slice e) sz by_) (he : TI C.P e ke sze be) (hx : σ.look x = .o (.osl ob g sze lo len)) (hm : σ.mem ob = (n, some (.buf ty sze (l.map f)))) (hn : n = g + 1) (hi : σ.look ix = .p (.v (.int k i))) (hl : lo + len ≤ l.length) (h0 : 0 ≤ i) (hb : i < len) (hd : dOk C o.dst = true) :
    LOp C o σ ⟨.o (.ptr ob g ((lo + i.toNat) * sze)), []⟩ (fun y => y == ob) :=
  lop_val hd fun τ a w G hl' hm' h => by
    subst hn
    obtain ⟨m, c, h1, h2, h3⟩ := look_of h ((hl' x (by simp [ho, Op.operands])).trans hx)
    have e2 := val_of h ((hl' ix (by simp [ho, Op.operands])).trans hi)
    obtain ⟨g', m', hg, hmm, hes, hmax, hrl, hh⟩ := h.mem ob _ _ (by rw [hm' ob (by simp)]; exact hm)
    obtain rfl : g = g' := by omega
    rw [h1] at hmm; obtain rfl := Option.some.inj hmm
    rw [List.length_map] at hrl
    rcases hh with ⟨h4, h5, _⟩ | ⟨b, arr, h4, h5, h6, h7, h8⟩
    · simp only at h5 hrl; omega
    · simp only at h4; subst h4
      obtain ⟨d, hdd, hk⟩ := hT.undd
      have : d = .slice e := by cases d <;> simp [TK.of] at hk; rw [hk]
      subst this
      refine ⟨.pointer (some ⟨b, (lo + i.toNat) * sze, none⟩), ?_, b, c, h1, rfl⟩
      have hb' : 0 ≤ i ∧ i < (len : Int) := ⟨h0, hb⟩
      simp [execOp, ho, h3, e2, Instr.indexAt, asIntOf, run_underlying hdd, hb', he.run_sizeOf, add_addr, Nat.add_mul]
/-- a struct out of an own slice's memory -/
theorem lop_ld_bk {α : Type} {f : α → List PVal} {l : List α} {T : TypeId} {x : Operand} {k : TK} {sz by_ : Nat} {ob g n ty i : Nat} {row : List PVal} (ho : o.op = .load T x) (hT : TI C.P T k sz by_) (hx : σ.look x = .o (.ptr ob g (i * sz))) (hm : σ.mem ob = (n, some (.buf ty sz (l.map f)))) (hI : Inhabited α) (hn : n = g + 1)
    (hk : k.agg = true) (hi : i < l.length) (hp : f (l.getD i default) = row) (hd : dOk C o.dst = true) : LOp C o σ ⟨.a (row.map .p), []⟩ (fun y => y == ob) :=
  lop_val hd fun τ a w G hl' hm' h => by
    subst hn
    obtain ⟨b, c', h1, h2⟩ := look_of h ((hl' x (by simp [ho, Op.operands])).trans hx)
    obtain ⟨g', m', hg, hmm, hes, hmax, hrl, hh⟩ := h.mem ob _ _ (by rw [hm' ob (by simp)]; exact hm)
    obtain rfl : g = g' := by omega
    rw [h1] at hmm; obtain rfl := Option.some.inj hmm
    rw [List.length_map] at hrl
    rcases hh with ⟨h4, _⟩ | ⟨b', arr, h4, h5, h6, h7, h8⟩
    · simp at h4
    · simp only [Option.some.injEq] at h4; subst h4
      obtain ⟨hrow, hcell⟩ := h8 i row (by rw [map_get hi, hp])
      simp only at h7 hrl
      have hmul : i * sz + sz ≤ arr.size := by
        rw [h7]
        calc i * sz + sz = (i + 1) * sz := by rw [Nat.add_mul, Nat.one_mul]
          _ ≤ c' * sz := Nat.mul_le_mul_right _ (by omega)
      have hrun := run_loadVar (P := C.P) hT (w := w) (b := b) (off := i * sz) (arr := arr.toList) (ty := ty) (fr := (0, 0)) (by simpa using h6) (by simpa using hmul) (by simp [hk])
      simp only [hk, if_true] at hrun
      refine ⟨.agg ((arr.toList.drop (i * sz)).take sz).toArray, ?_, (arr.toList.drop (i * sz)).take sz, rfl, ?_⟩
      · simp [execOp, ho, h2, Instr.loadAt, Instr.sureAddr, hrun]
      · refine ⟨by simp; omega, fun j q v hq hv => ?_⟩
        rw [List.getElem?_map] at hq
        cases hpj : row[j]? with
        | none => rw [hpj] at hq; cases hq
        | some p =>
          rw [hpj] at hq; simp at hq; subst hq
          obtain ⟨u, hu, hpu⟩ := hcell j p hpj
          have hj : j < sz := by rw [← hrow]; exact (List.getElem?_eq_some_iff.1 hpj).1
          have : u = v := by
            rw [List.getElem?_take, if_pos hj, List.getElem?_drop] at hv
            have e : arr[i * sz + j]? = some v := by simpa using hv
            rw [Nat.zero_add, e] at hu; exact (Option.some.inj hu).symm
          subst this; exact hpu
theorem lop_ld_bk2 {α : Type} {f : α → List PVal} {l : List α} {T : TypeId} {x : Operand} {k : TK} {sz by_ : Nat} {ob g n ty i : Nat} {p0 p1 : PVal} (ho : o.op = .load T x) (hT : TI C.P T k sz by_) (hx : σ.look x = .o (.ptr ob g (i * sz))) (hm : σ.mem ob = (n, some (.buf ty sz (l.map f)))) (hI : Inhabited α) (hn : n = g + 1)
    (hk : k.agg = true) (hi : i < l.length) (hp : f (l.getD i default) = [p0, p1]) (hd : dOk C o.dst = true) : LOp C o σ ⟨.a [.p p0, .p p1], []⟩ (fun y => y == ob) := lop_ld_bk ho hT hx hm hI hn hk hi hp hd
theorem lop_ld_bk3 {α : Type} {f : α → List PVal} {l : List α} {T : TypeId} {x : Operand} {k : TK} {sz by_ : Nat} {ob g n ty i : Nat} {p0 p1 p2 : PVal} (ho : o.op = .load T x) (hT : TI C.P T k sz by_) (hx : σ.look x = .o (.ptr ob g (i * sz))) (hm : σ.mem ob = (n, some (.buf ty sz (l.map f)))) (hI : Inhabited α) (hn : n = g + 1)
    (hk : k.agg = true) (hi : i < l.length) (hp : f (l.getD i default) = [p0, p1, p2]) (hd : dOk C o.dst = true) : LOp C o σ ⟨.a [.p p0, .p p1, .p p2], []⟩ (fun y => y == ob) := lop_ld_bk ho hT hx hm hI hn hk hi hp hd
theorem lop_ld_bk4 {α : Type} {f : α → List PVal} {l : List α} {T : TypeId} {x : Operand} {k : TK} {sz by_ : Nat} {ob g n ty i : Nat} {p0 p1 p2 p3 : PVal} (ho : o.op = .load T x) (hT : TI C.P T k sz by_) (hx : σ.look x = .o (.ptr ob g (i * sz))) (hm : σ.mem ob = (n, some (.buf ty sz (l.map f)))) (hI : Inhabited α) (hn : n = g + 1)
    (hk : k.agg = true) (hi : i < l.length) (hp : f (l.getD i default) = [p0, p1, p2, p3]) (hd : dOk C o.dst = true) : LOp C o σ ⟨.a [.p p0, .p p1, .p p2, .p p3], []⟩ (fun y => y == ob) := lop_ld_bk ho hT hx hm hI hn hk hi hp hd
/-- a struct into an own slice's memory -/
theorem lop_st_bk2 {α : Type} {f : α → List PVal} {l : List α} {v : α} {T : TypeId} {x y : Operand} {k : TK} {sz by_ : Nat} {ob g n ty i : Nat} {p0 p1 : PVal} (ho : o.op = .store T x y) (hT : TI C.P T k sz by_) (hdst : o.dst = none) (hx : σ.look x = .o (.ptr ob g (i * sz))) (hy : σ.look y = .a [.p p0, .p p1])
    (hm : σ.mem ob = (n, some (.buf ty sz (l.map f)))) (hs : 2 = sz) (hn : n = g + 1) (hp : [p0, p1] = f v) (hi : i < l.length) : LOp C o σ ⟨.un, [(ob, (n, some (.buf ty sz ((l.set i v).map f))))]⟩ (fun z => z == ob) := by
  have := lop_store_row (C := C) (o := o) (s := .agg [.p p0, .p p1]) (row := [p0, p1]) ho hdst hx hy rfl hs hm hn (by simpa using hi)
  rwa [hp, ← List.map_set] at this
theorem lop_st_bk3 {α : Type} {f : α → List PVal} {l : List α} {v : α} {T : TypeId} {x y : Operand} {k : TK} {sz by_ : Nat} {ob g n ty i : Nat} {p0 p1 p2 : PVal} (ho : o.op = .store T x y) (hT : TI C.P T k sz by_) (hdst : o.dst = none) (hx : σ.look x = .o (.ptr ob g (i * sz))) (hy : σ.look y = .a [.p p0, .p p1, .p p2])
    (hm : σ.mem ob = (n, some (.buf ty sz (l.map f)))) (hs : 3 = sz) (hn : n = g + 1) (hp : [p0, p1, p2] = f v) (hi : i < l.length) : LOp C o σ ⟨.un, [(ob, (n, some (.buf ty sz ((l.set i v).map f))))]⟩ (fun z => z == ob) := by
  have := lop_store_row (C := C) (o := o) (s := .agg [.p p0, .p p1, .p p2]) (row := [p0, p1, p2]) ho hdst hx hy rfl hs hm hn (by simpa using hi)
  rwa [hp, ← List.map_set] at this
theorem lop_st_bk4 {α : Type} {f : α → List PVal} {l : List α} {v : α} {T : TypeId} {x y : Operand} {k : TK} {sz by_ : Nat} {ob g n ty i : Nat} {p0 p1 p2 p3 : PVal} (ho : o.op = .store T x y) (hT : TI C.P T k sz by_) (hdst : o.dst = none) (hx : σ.look x = .o (.ptr ob g (i * sz))) (hy : σ.look y = .a [.p p0, .p p1, .p p2, .p p3])
    (hm : σ.mem ob = (n, some (.buf ty sz (l.map f)))) (hs : 4 = sz) (hn : n = g + 1) (hp : [p0, p1, p2, p3] = f v) (hi : i < l.length) : LOp C o σ ⟨.un, [(ob, (n, some (.buf ty sz ((l.set i v).map f))))]⟩ (fun z => z == ob) := by
  have := lop_store_row (C := C) (o := o) (s := .agg [.p p0, .p p1, .p p2, .p p3]) (row := [p0, p1, p2, p3]) ho hdst hx hy rfl hs hm hn (by simpa using hi)
  rwa [hp, ← List.map_set] at this
/-- an own slice from a place on -/
theorem lop_sl_ol {T e : TypeId} {x xl : Operand} {sz by_ : Nat} {ke : TK} {sze be : Nat} {kl : IntKind} {lo : Int} {ob g len : Nat} (ho : o.op = .slice T x (some xl) none none) (hT : TI C.P T (.slice e) sz by_) (he : TI C.P e ke sze be) (hx : σ.look x = .o (.osl ob g sze 0 len)) (hh : σ.look xl = .p (.v (.int kl lo)))
    (h0 : 0 ≤ lo) (h1 : lo < len) (hm : ∃ n ty rows, σ.mem ob = (n, some (.buf ty sze rows)) ∧ n = g + 1) (hd : dOk C o.dst = true) : LOp C o σ ⟨.o (.osl ob g sze lo.toNat (len - lo.toNat)), []⟩ (fun y => y == ob) :=
  lop_val hd fun τ a w G hl hm' h => by
    obtain ⟨n, ty, rows, hmo, rfl⟩ := hm
    obtain ⟨m, c, p1, p2, p3⟩ := look_of h ((hl x (by simp [ho, Op.operands])).trans hx)
    have h2 := val_of h ((hl xl (by simp [ho, Op.operands])).trans hh)
    obtain ⟨g', m', hg, hmm, hes, hmax, hrl, hh'⟩ := h.mem ob _ _ (by rw [hm' ob (by simp)]; exact hmo)
    obtain rfl : g = g' := by omega
    rw [p1] at hmm; obtain rfl := Option.some.inj hmm
    obtain ⟨d, hdd, hkk⟩ := hT.undd
    have : d = .slice e := by cases d <;> simp [TK.of] at hkk; rw [hkk]
    subst this
    refine ⟨.slice (m.map fun b => ⟨b, lo.toNat * sze, none⟩) (len - lo.toNat) (c - lo.toNat), ?_, m, c, p1, by omega, rfl⟩
    have e1 : (Instr.sliceBounds true len c (some (.int kl lo)) none none).run C.P w = .ok (lo.toNat, len, c) w := by simp [Instr.sliceBounds, run_sb (y := len) h0 (by omega)]
    simp only [Nat.sub_zero, Nat.zero_mul] at p3
    simp only [execOp, ho, Instr.sliceAt, Sem.run_bind, run_underlying hdd, Result.andThen_ok, Instr.slice, p3, h2, Option.map_none, Option.map_some, e1, he.run_sizeOf, Sem.run_pure]
    cases m with
    | none =>
      rcases hh' with ⟨_, h4, _⟩ | ⟨b, arr, h4, _⟩
      · simp only at h4; simp [h4]
      · cases h4
    | some b =>
      have hc : ¬ c = lo.toNat := by omega
      by_cases h5 : lo.toNat * sze = 0
      · simp [Addr.add, hc, h5]
      · simp [Addr.add, hc, h5]
/-- an own slice's tail is cleared: its rows are forgotten -/
theorem lop_clear {α : Type} {f : α → List PVal} {l : List α} {T e : TypeId} {x : Operand} {sz by_ es be : Nat} {ke : TK} {z : List Value} {ob g n ty lo len : Nat} (ho : o.op = .call ⟨.builtin .clear, #[x], #[T]⟩) (hT : TI C.P T (.slice e) sz by_) (he : TI C.P e ke es be) (hz : TZ C.P e z)
    (hx : σ.look x = .o (.osl ob g es lo len)) (hm : σ.mem ob = (n, some (.buf ty es (l.map f)))) (hn : n = g + 1) (hzl : z.length = es) (h1 : z.all (·.oneCell') = true) (hlo : lo ≤ l.length) (hd : dOk C o.dst = true) :
    LOp C o σ ⟨.tup [], [(ob, (n, some (.buf ty es ((l.take lo).map f))))]⟩ (fun y => y == ob) :=
  lop_same (by simp) hd hm fun τ a w G g0 m hl' hm' h hng hmm hh => by
    subst hn
    obtain rfl : g = g0 := by omega
    obtain ⟨m1, c, q1, q2, q3⟩ := look_of h ((hl' x (by simp [ho, Op.operands, Call.operands])).trans hx)
    obtain ⟨hes, hmax, hrl2, hh⟩ := hh
    rw [q1] at hmm; obtain rfl := Option.some.inj hmm
    rw [List.length_map] at hrl2
    simp only at hmax hrl2 hh
    obtain ⟨d, hdd, hkk⟩ := hT.undd
    have : d = .slice e := by cases d <;> simp [TK.of] at hkk; rw [hkk]
    subst this
    obtain ⟨i, hi, his, hib⟩ := he.infoo
    have hzz := hz.zero
    simp only [hi, Option.bind_some] at hzz
    have hlen' : ((l.take lo).map f).length ≤ c := by simp; omega
    have htake : ∀ {X : Wd} {arr : Array Value}, RowsAt X arr 0 es (l.map f) → RowsAt X arr 0 es ((l.take lo).map f) := fun hr q r hq => hr q r (by
      rw [List.map_take, List.getElem?_take] at hq
      split at hq
      · exact hq
      · cases hq)
    cases hz0 : i.zero with
    | none => simp [hz0] at hzz
    | some zv =>
      simp only [hz0, Option.map_some, Option.some.injEq] at hzz
      have hzs : zv.cells.size = es := by rw [← hzl, ← hzz]; simp
      have hzv : (zeroValue e).run C.P w = .ok zv w := by simp [zeroValue, typeInfo, hi, hz0]
      rcases hh with ⟨k1, k2, k3⟩ | ⟨b, arr, k1, k2, k3, k4, k5⟩
      · subst k1
        refine ⟨.value (.tuple #[]), .tuple #[], w, ?_, .inl rfl, rfl, .same, rfl, rfl, fun _ _ _ => rfl, ⟨hes, hmax, hlen', .inl ⟨rfl, k2, k3⟩⟩, ⟨[], rfl, .nil⟩⟩
        simp [execOp, ho, resolve, invoke, builtin, q3, Builtin.clear_, run_underlying hdd]
      · subst k1
        by_cases h0 : len = 0
        · subst h0
          refine ⟨.value (.tuple #[]), .tuple #[], w, ?_, .inl rfl, rfl, .same, rfl, rfl, fun _ _ _ => rfl, ⟨hes, hmax, hlen', .inr ⟨b, arr, rfl, k2, k3, k4, htake k5⟩⟩, ⟨[], rfl, .nil⟩⟩
          simp [execOp, ho, resolve, invoke, builtin, q3, Builtin.clear_, run_underlying hdd]
        · have hzl2 : (Builtin.zeroCells zv.cells len).toList.length = len * es := by simp [Builtin.zeroCells, hzs]
          have hone : ∀ v ∈ (Builtin.zeroCells zv.cells len).toList, v.oneCell' = true := fun v hv => by
            simp only [Builtin.zeroCells, Array.toList_map, List.mem_map] at hv
            obtain ⟨j, hj, rfl⟩ := hv
            have hlt : j % zv.cells.size < zv.cells.size := Nat.mod_lt _ (by omega)
            rw [getElem!_pos zv.cells _ hlt]
            exact List.all_eq_true.1 h1 _ (by rw [← hzz]; exact Array.mem_toList_iff.2 (Array.getElem_mem hlt))
          have hmul : lo * es + len * es ≤ arr.size := by
            rw [k4, ← Nat.add_mul]; exact Nat.mul_le_mul_right _ q2
          have hst := run_storeCells_at (P := C.P) b (lo * es) ty (Builtin.zeroCells zv.cells len).toList 0 arr w k3 (by rw [hzl2]; exact hmul) hone
          rw [hzl2] at hst
          simp only [Nat.add_zero] at hst
          have hle : Wd.le ⟨w, G.S⟩ ⟨w.setRow b (arr.toList.take (lo * es) ++ (Builtin.zeroCells zv.cells len).toList ++ arr.toList.drop (lo * es + len * es)).toArray, G.S⟩ := fun k hk =>
            ⟨hk, setRow_other w b k _ fun e => h.stab ob b (by rw [k2]; simp) (e ▸ hk)⟩
          have k3' : w.heap[b]? = some (.cells arr.toList.toArray ty (0, 0)) := by simpa using k3
          refine ⟨.value (.tuple #[]), .tuple #[], w.setRow b (arr.toList.take (lo * es) ++ (Builtin.zeroCells zv.cells len).toList ++ arr.toList.drop (lo * es + len * es)).toArray, ?_, .inl rfl, setRow_frame.1, setRow_frame.2.1, setRow_frame.2.2.1, setRow_frame.2.2.2,
            fun k _ hk => setRow_other w b k _ fun e => hk (by rw [k2, e]; simp), ⟨hes, hmax, hlen', .inr ⟨b, _, rfl, k2, setRow_heap w b _ _ ty _ k3', ?_, ?_⟩⟩, ⟨[], rfl, .nil⟩⟩
          · obtain ⟨len', rfl⟩ : ∃ len', len = len' + 1 := ⟨len - 1, by omega⟩
            simp only [execOp, ho, resolve, invoke, builtin, Sem.run_bind, Sem.run_pure, Result.andThen_ok, List.map_toArray, List.map_cons, List.map_nil, q3, Option.map_some]
            simp [Builtin.clear_, run_underlying hdd, hzv, hst]
          · simp only [List.size_toArray, List.length_append, hzl2, List.length_take, List.length_drop, Array.length_toList]
            omega
          · intro q r hq
            have hql : q < lo := by
              have := (List.getElem?_eq_some_iff.1 hq).1
              simp at this; omega
            obtain ⟨e1, e2⟩ := htake k5 q r hq
            refine ⟨e1, fun j p hp => ?_⟩
            obtain ⟨v, hv, hpv⟩ := e2 j p hp
            refine ⟨v, ?_, p.mono hle hpv⟩
            have hj : j < es := by rw [← e1]; exact (List.getElem?_eq_some_iff.1 hp).1
            rw [← hv]
            have : q * es + es ≤ lo * es := by
              calc q * es + es = (q + 1) * es := by rw [Nat.add_mul, Nat.one_mul]
                _ ≤ lo * es := Nat.mul_le_mul_right _ hql
            simp only [Nat.zero_add, List.getElem?_toArray]
            rw [List.append_assoc, List.getElem?_append_left (by simp; omega), List.getElem?_take, if_pos (by omega)]; simp
/-- a slice that is not empty, behind an empty exact one: what comes is own -/
theorem lop_ap_new {α : Type} {f : α → List PVal} {l : List α} {T e : TypeId} {x y : Operand} {sz by_ es be : Nat} {ke : TK} {z : List Value} {ey : Bool} {d n : Nat} {mo0 : Option MO} (ho : o.op = .call ⟨.builtin .append, #[x, y], #[T, T]⟩) (hT : TI C.P T (.slice e) sz by_) (he : TI C.P e ke es be) (hz : TZ C.P e z) (hdst : o.dst = some d)
    (hx : σ.look x = .p (.sl es [] true)) (hy : σ.look y = .p (.sl es (l.map f) ey)) (h0 : 0 < l.length) (hes : 0 < es) (hzl : z.length = es) (h63 : l.length ≤ maxLen) (hby : l.length * be ≤ 140737488355328) (hm : σ.mem d = (n, mo0)) (hd : dOk C o.dst = true) :
    LOp C o σ ⟨.o (.osl d n es 0 l.length), [(d, (n + 1, some (.buf e es (l.map f))))]⟩ (fun q => q == d) :=
  lop_gen (by simp) hd hm fun τ a w G hl hm' h => by
    obtain ⟨bs, cap0, p1, p2, p3, p4, p5⟩ := look_of h ((hl x (by simp [ho, Op.operands, Call.operands])).trans hx)
    obtain rfl := p4 rfl
    obtain ⟨base, cap, h1, h2⟩ := (src_sl (C := C) hy) τ a w G (hl y (by simp [ho, Op.operands, Call.operands])) (fun q hq => hm' q (by simp at hq)) h
    obtain ⟨nvs, k1, k2, k3, k4⟩ := src_vals (τ := τ) (a := a) h2
    have hlen : (G.μ d).length = n := by have := h.gens d; rw [hm' d (by simp), hm] at this; exact this
    rw [List.length_map] at h1 k1
    simp only [List.length_nil] at p1
    obtain ⟨cap', arr, hr, g1, g2, g3, g4⟩ := app_fresh (ty := o.type) hT he hz hzl (w := w) (bs := bs) (src := base) (n := 0) (cap := 0) (m := l.length) (c := cap) (olds := []) (news := nvs) (by
      cases bs with
      | none => exact .inl ⟨rfl, rfl, rfl, rfl⟩
      | some b => exact .inr ⟨b, rfl, by simp, Nat.le_refl _, by simp⟩) (by simpa using k1) (by simpa using k2) (by omega) (by omega) (by simpa using hby)
    simp only [Nat.zero_add, List.nil_append] at hr g1 g4
    refine ⟨.slice (some ⟨w.heap.size, 0, none⟩) l.length cap', w.drew.alloc (.cells arr e), (some w.heap.size, cap'), [w.heap.size], by
      simp only [execOp, ho, resolve, invoke, builtin, Sem.run_bind, Sem.run_pure, Result.andThen_ok, List.map_toArray, List.map_cons, List.map_nil, p1, h1, hr], rfl, .same, rfl, by simp, fun k hk _ => Below.heap_alloc w.drew _ k hk, by simp, ?_, ?_⟩
    · refine ⟨hes, g2, by simpa using g1, .inr ⟨w.heap.size, arr, rfl, rfl, heap_alloc_new w.drew _, g3, ?_⟩⟩
      have := rowsAt_append (X := ⟨w, G.S⟩) (arr := arr) (es := es) (rows := []) (news := l.map f) (olds := []) (nvs := nvs) (by simp) (by simpa using k1) (by simpa using g4) (by simp) k4
      simp only [List.nil_append] at this
      intro i row hrow
      refine ⟨(this i row hrow).1, fun j p hp => ?_⟩
      obtain ⟨c, hc, hh⟩ := (this i row hrow).2 j p hp
      exact ⟨c, hc, p.mono (wle_drew_alloc (fun b hb => (h.sbd b hb).1) _) hh⟩
    · exact ⟨some w.heap.size, cap', mu_new hlen, by simpa using g1, by simp⟩
end ops
theorem lop_sl_oh2 {C : Ctx} {o : Oper} {σ : St} {T e : TypeId} {x xh : Operand} {sz by_ : Nat} {ke : TK} {sze be : Nat} {kh : IntKind} {hi : Int} {ob g es len : Nat} (ho : o.op = .slice T x none (some xh) none) (hT : TI C.P T (.slice e) sz by_) (he : TI C.P e ke sze be) (hx : σ.look x = .o (.osl ob g es 0 len)) (hh : σ.look xh = .p (.v (.int kh hi)))
    (h0 : 0 ≤ hi) (h1 : hi ≤ len) (hd : dOk C o.dst = true) : LOp C o σ ⟨.o (.osl ob g es 0 hi.toNat), []⟩ (fun _ => false) := lop_sl_oh ho hx hh h0 h1 hd
theorem lopQ {C : Ctx} {o : Oper} {σ : St} {e : Eff} {ro : Nat → Bool} (h : LOp C o σ e ro := by
    first
      | (apply gLoad; (focus rfl); first
          | (apply lop_ld_bk2; (focus rfl); (focus exact inferInstance); (focus rfl); (focus rfl); (focus rfl); (focus rfl); (focus omega); (focus rfl); (focus rfl); (focus exact inferInstance))
          | (apply lop_ld_bk4; (focus rfl); (focus exact inferInstance); (focus rfl); (focus rfl); (focus rfl); (focus rfl); (focus omega); (focus rfl); (focus rfl); (focus exact inferInstance))
          | (apply lop_ld_bk3; (focus rfl); (focus exact inferInstance); (focus rfl); (focus rfl); (focus rfl); (focus rfl); (focus omega); (focus rfl); (focus rfl); (focus exact inferInstance)))
      | (apply gSlice; (focus rfl); first
          | (apply lop_sl_ol; (focus rfl); (focus exact inferInstance); (focus exact inferInstance); (focus rfl); (focus rfl); (focus omega); (focus omega); (focus exact ⟨_, _, _, rfl, rfl⟩); (focus rfl))
          | (apply lop_sl_oh2; (focus rfl); (focus exact inferInstance); (focus exact inferInstance); (focus rfl); (focus rfl); (focus omega); (focus omega); (focus rfl)))
      | exact lopJ
      | (apply gIndex; (focus rfl); apply lop_ix_bl; (focus rfl); (focus exact inferInstance); (focus exact inferInstance); (focus rfl); (focus rfl); (focus rfl); (focus rfl); (focus omega); (focus omega); (focus omega); (focus rfl))
      | fail) : LOp C o σ e ro := h
theorem stoQ {C : Ctx} {o : Oper} {σ : St} {e : Eff} {ro : Nat → Bool} (h : LOp C o σ e ro := by
    first
      | (apply lop_st_bk2; (focus rfl); (focus exact inferInstance); (focus rfl); (focus rfl); (focus rfl); (focus rfl); (focus rfl); (focus rfl); (focus rfl); (focus omega))
      | (apply lop_st_bk4; (focus rfl); (focus exact inferInstance); (focus rfl); (focus rfl); (focus rfl); (focus rfl); (focus rfl); (focus rfl); (focus rfl); (focus omega))
      | (apply lop_st_bk3; (focus rfl); (focus exact inferInstance); (focus rfl); (focus rfl); (focus rfl); (focus rfl); (focus rfl); (focus rfl); (focus rfl); (focus omega))
      | (apply lop_clear; (focus rfl); (focus exact inferInstance); (focus exact inferInstance); (focus exact inferInstance); (focus rfl); (focus rfl); (focus rfl); (focus rfl); (focus rfl); (focus omega); (focus rfl))
      | exact stoB
      | fail) : LOp C o σ e ro := h
section steps
variable {C : Ctx} {ops : Array Oper} {o : Oper} {rest : List Oper} {K : St → Prop} {σ : St} {e : Eff} {ro : Nat → Bool} {W : List (Nat × Nat)} {i : Nat}
theorem rnQ {d : Nat} (hk : RunN C ops rest K (e.app (some d) σ)) (hg : Guard ops σ o true := by first | exact gd_n rfl rfl | exact gd_t rfl rfl rfl rfl | exact gd_t rfl rfl rfl (by assumption)) (hd : o.dst = some d := by rfl) (h : LOp C o σ e ro := by exact lopQ) : RunN C ops (o :: rest) K σ := rn_any hg hd h hk
theorem rkQ {d : Nat} (hk : RunK C ops W (i + 1) rest K (e.app (some d) σ)) (hg : Guard ops σ o true := by first | exact gd_n rfl rfl | exact gd_t rfl rfl rfl rfl | exact gd_t rfl rfl rfl (by assumption)) (hd' : o.dst = some d := by rfl) (hd : dOk C o.dst = true := by rfl) (h : LOp C o σ e ro := by exact lopQ)
    (hro : ∀ x, ro x = true → okObj ops W i x = true := by first | exact fun _ => ro_none | exact ro_one rfl | exact ro_one (by kernel_rfl) | exact ro_kIn (by decide)) (hob : ∀ p ∈ e.obj, (i, p.1) ∈ W := by first | exact ob_none | exact ob_one (by decide) | decide) : RunK C ops W i (o :: rest) K σ := rk_wr hg hd' hd h hro hob hk
theorem rnSQ (hk : RunN C ops rest K (e.app none σ)) (hg : Guard ops σ o true := by first | exact gd_n rfl rfl | exact gd_t rfl rfl rfl rfl | exact gd_t rfl rfl rfl (by assumption)) (hd : o.dst = none := by rfl) (h : LOp C o σ e ro := by exact stoQ) : RunN C ops (o :: rest) K σ := rn_sto hg hd h hk
theorem rkSQ (hk : RunK C ops W (i + 1) rest K (e.app none σ)) (hg : Guard ops σ o true := by first | exact gd_n rfl rfl | exact gd_t rfl rfl rfl rfl | exact gd_t rfl rfl rfl (by assumption)) (hd' : o.dst = none := by rfl) (h : LOp C o σ e ro := by exact stoQ)
    (hro : ∀ x, ro x = true → okObj ops W i x = true := by first | exact fun _ => ro_none | exact ro_one rfl | exact ro_one (by kernel_rfl) | exact ro_kIn (by decide)) (hob : ∀ p ∈ e.obj, (i, p.1) ∈ W := by first | exact ob_none | exact ob_one (by decide) | decide) : RunK C ops W i (o :: rest) K σ := rk_sto hg hd' h hro hob hk
end steps
end Go.Aw
