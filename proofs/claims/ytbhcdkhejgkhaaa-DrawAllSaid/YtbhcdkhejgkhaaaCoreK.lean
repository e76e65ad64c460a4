/- THE ABSTRACT WALK, part 11: what a walk may say anew of a state; more operations. -/
import Derived.Test.YtbhcdkhejgkhaaaCoreI
import Derived.Test.YtbhcdkhejgkhaaaCoreJ
import Derived.Laws.MakeOwn
namespace Go.Aw
open Go Go.RowKit
set_option linter.unusedVariables false
set_option linter.unusedSimpArgs false

/-! ### A state, said otherwise -/
def Says (C : Ctx) (σ τ : St) : Prop := ∀ a w, Rel C σ a w → Rel C τ a w
theorem aws_says {C : Ctx} {σ τ : St} {c : Code} {k : List Code} {Q : Exit → St → Prop} (h : Says C σ τ) (hk : AWs C (c :: k) Q τ) : AWs C (c :: k) Q σ := fun a w hr => hk a w (h a w hr)
theorem rn_says {C : Ctx} {ops : Array Oper} {o : Oper} {rest : List Oper} {K : St → Prop} {σ τ : St} (h : Says C σ τ) (hg : o.guard = none) (hk : RunN C ops (o :: rest) K τ) : RunN C ops (o :: rest) K σ := by
  rcases hk with ⟨g, τ', h1, h2⟩ | ⟨g, _⟩
  · exact .inl ⟨by unfold Guard; rw [hg], τ', fun a w hr => h1 a w (h a w hr), h2⟩
  · unfold Guard at g; rw [hg] at g; cases g

theorem RelG.alias {C : Ctx} {σ : St} {a : Act} {w : World} {G : Gh} (h : RelG C σ a w G) {t : Nat} {v : AV} (hv : v.holds G.μ ⟨w, G.S⟩ (a.tmps.getD t undef)) : RelG C (σ.set (some t) v) a w G :=
  { h with
    env := fun s => by
      simp only [St.set]
      by_cases hs : s = t
      · subst hs; simpa using hv
      · simpa [hs] using h.env s }

/-- a nil slice, as one that grows -/
theorem says_nil {C : Ctx} {σ : St} {t o n ty es : Nat} {mo : Option MO} (hv : σ.env t = .p (.v (.slice none 0 0))) (hm : σ.mem o = (n, mo)) (hes : 0 < es) :
    Says C σ ((σ.put o (n + 1, some (.buf ty es []))).set (some t) (.o (.osl o n es 0 0))) := by
  rintro a w ⟨G, h⟩
  have hlen : (G.μ o).length = n := by have := h.gens o; rw [hm] at this; exact this
  have hu := h.upd (o := o) (n' := n + 1) (mo' := some (.buf ty es [])) (μo := G.μ o ++ [(none, 0)]) (fp' := []) (w' := w) (fun g x hx => by
    rw [List.getElem?_append_left (List.getElem?_eq_some_iff.1 hx).1]; exact hx) (by simp [hlen]) rfl rfl rfl (Nat.le_refl _) (fun _ _ _ => rfl) (fun b hb => by simp at hb) (fun mo hmo => by
      obtain rfl := Option.some.inj hmo
      exact ⟨n, (none, 0), rfl, by simp [hlen], hes, by simp [maxLen], Nat.le_refl _, .inl ⟨rfl, rfl, rfl⟩⟩)
  have h1 := h.env t
  rw [hv] at h1
  refine ⟨_, hu.alias ?_⟩
  refine ⟨none, 0, by simp [hlen], Nat.le_refl _, ?_⟩
  simpa using h1.1

theorem sl_of_buf {μ : Mu} {X : Wd} {m : Option Nat} {c : Nat} {v : Value} {es ty : Nat} {rows : List (List PVal)} (hc : c ≤ maxLen) (hl : rows.length ≤ c) (h3 : (m = none ∧ c = 0) ∨ ∃ b arr, m = some b ∧ X.S b ∧ X.w.heap[b]? = some (.cells arr ty (0, 0)) ∧ RowsAt X arr 0 es rows)
    (h : v = .slice (m.map fun b => ⟨b, 0, none⟩) rows.length c) : (PVal.sl es rows false).holds X v := by
  refine ⟨m.map fun b => ⟨b, 0, none⟩, c, h, hl, hc, by simp, ?_⟩
  rcases h3 with ⟨rfl, rfl⟩ | ⟨b, arr, rfl, k1, k2, k3⟩
  · exact ⟨List.eq_nil_of_length_eq_zero (by omega), rfl⟩
  · exact .inr ⟨rfl, k1, arr, ty, (0, 0), k2, by simpa using k3⟩

/-- an own slice comes to rest -/
theorem says_frz {C : Ctx} {σ : St} {t o g n ty es len : Nat} {rows : List (List PVal)} (hv : σ.env t = .o (.osl o g es 0 len)) (hm : σ.mem o = (n, some (.buf ty es rows))) (hn : n = g + 1) (hl : len = rows.length) :
    Says C σ ((σ.put o (n, some (.frz ty es rows))).set (some t) (.p (.sl es rows false))) := by
  subst hn hl
  rintro a w ⟨G, h⟩
  obtain ⟨g', m, hg, hmm, hes, hmax, hrl, hh⟩ := h.mem o _ _ hm
  obtain rfl : g = g' := by omega
  have hh' : (m.1 = none ∧ m.2 = 0) ∨ ∃ b arr, m.1 = some b ∧ (G.S b ∨ b ∈ G.φ o) ∧ w.heap[b]? = some (.cells arr ty (0, 0)) ∧ RowsAt ⟨w, fun b => G.S b ∨ b ∈ G.φ o⟩ arr 0 es rows := by
    rcases hh with ⟨h3, h4, _⟩ | ⟨b, arr, h3, h4, h5, h6, h7⟩
    · exact .inl ⟨h3, h4⟩
    · refine .inr ⟨b, arr, h3, .inr (by rw [h4]; simp), h5, fun i row hr => ⟨(h7 i row hr).1, fun j p hp => ?_⟩⟩
      obtain ⟨c, hc, hp'⟩ := (h7 i row hr).2 j p hp
      exact ⟨c, hc, p.mono (x := ⟨w, G.S⟩) (fun b hb => ⟨.inl hb, rfl⟩) hp'⟩
  have hf := h.freeze (o := o) (mo' := some (.frz ty es rows)) hm (fun x hx => by
    obtain rfl := Option.some.inj hx
    exact ⟨g, m, rfl, hmm, rfl, hmax, hrl, hh'⟩)
  have h1 := h.env t
  rw [hv] at h1
  obtain ⟨m', c, k1, k2, k3⟩ := h1
  rw [k1] at hmm; obtain rfl := Option.some.inj hmm
  refine ⟨_, hf.alias ?_⟩
  exact sl_of_buf (μ := G.μ) (ty := ty) hmax hrl hh' (by simpa using k3)
/-- another slot with a slice that has come to rest -/
theorem says_frz2 {C : Ctx} {σ : St} {t o g n ty es len : Nat} {rows : List (List PVal)} (hv : σ.env t = .o (.osl o g es 0 len)) (hm : σ.mem o = (n, some (.frz ty es rows))) (hn : n = g + 1) (hl : len = rows.length) :
    Says C σ (σ.set (some t) (.p (.sl es rows false))) := by
  subst hn hl
  rintro a w ⟨G, h⟩
  obtain ⟨g', m, hg, hmm, hes, hmax, hrl, hh⟩ := h.mem o _ _ hm
  obtain rfl : g = g' := by omega
  have h1 := h.env t
  rw [hv] at h1
  obtain ⟨m', c, k1, k2, k3⟩ := h1
  rw [k1] at hmm; obtain rfl := Option.some.inj hmm
  exact ⟨_, h.alias (sl_of_buf (μ := G.μ) (ty := ty) hmax hrl hh (by simpa using k3))⟩
/-- a nil slice as one that stays -/
theorem says_nils {C : Ctx} {σ : St} {t es : Nat} (hv : σ.env t = .p (.v (.slice none 0 0))) : Says C σ (σ.set (some t) (.p (.sl es [] true))) := by
  rintro a w ⟨G, h⟩
  have h1 := h.env t
  rw [hv] at h1
  exact ⟨_, h.alias ⟨none, 0, h1.1, Nat.le_refl _, by simp [maxLen], fun _ => rfl, rfl, rfl⟩⟩
/-- less is known -/
theorem says_inex {C : Ctx} {σ : St} {t es : Nat} {rows : List (List PVal)} {ex : Bool} (hv : σ.env t = .p (.sl es rows ex)) : Says C σ (σ.set (some t) (.p (.sl es rows false))) := by
  rintro a w ⟨G, h⟩
  have h1 := h.env t
  rw [hv] at h1
  obtain ⟨base, cap, k1, k2, k3, k4, k5⟩ := h1
  exact ⟨_, h.alias ⟨base, cap, k1, k2, k3, by simp, k5⟩⟩

section ops
variable {C : Ctx} {o : Oper} {σ : St}

theorem lop_min {x y : Operand} {T1 T2 : TypeId} {k : IntKind} {m n : Int} (ho : o.op = .call ⟨.builtin .min, #[x, y], #[T1, T2]⟩) (hx : σ.look x = .p (.v (.int k m))) (hy : σ.look y = .p (.v (.int k n))) (hd : dOk C o.dst = true) :
    LOp C o σ ⟨.p (.v (.int k (if n < m then n else m))), []⟩ (fun _ => false) :=
  lop_val hd fun τ a w G hl hm h => by
    have e1 := val_of h ((hl x (by simp [ho, Op.operands, Call.operands])).trans hx)
    have e2 := val_of h ((hl y (by simp [ho, Op.operands, Call.operands])).trans hy)
    exact ⟨_, by simp [execOp, ho, resolve, invoke, builtin, e1, e2, Builtin.min_, Builtin.min2], rfl, rfl⟩
theorem lop_max {x y : Operand} {T1 T2 : TypeId} {k : IntKind} {m n : Int} (ho : o.op = .call ⟨.builtin .max, #[x, y], #[T1, T2]⟩) (hx : σ.look x = .p (.v (.int k m))) (hy : σ.look y = .p (.v (.int k n))) (hd : dOk C o.dst = true) :
    LOp C o σ ⟨.p (.v (.int k (if n > m then n else m))), []⟩ (fun _ => false) :=
  lop_val hd fun τ a w G hl hm h => by
    have e1 := val_of h ((hl x (by simp [ho, Op.operands, Call.operands])).trans hx)
    have e2 := val_of h ((hl y (by simp [ho, Op.operands, Call.operands])).trans hy)
    exact ⟨_, by simp [execOp, ho, resolve, invoke, builtin, e1, e2, Builtin.max_, Builtin.max2], rfl, rfl⟩

/-! pointers -/
theorem lop_nilCheck {x : Operand} {ob g off : Nat} (ho : o.op = .nilCheck x) (hx : σ.look x = .o (.ptr ob g off)) (hd : dOk C o.dst = true) : LOp C o σ ⟨.o (.ptr ob g off), []⟩ (fun _ => false) :=
  lop_val hd fun τ a w G hl hm h => by
    obtain ⟨b, c, h1, h2⟩ := look_of h ((hl x (by simp [ho, Op.operands])).trans hx)
    exact ⟨_, by simp only [execOp, ho, h2]; rfl, b, c, h1, rfl⟩
theorem lop_ptr_eqnil {t e t' : TypeId} {x y : Operand} {sz by_ : Nat} [hT : TI C.P t (.ptr e) sz by_] {ob g off : Nat} (ho : o.op = .binOp .eql t x y t') (hx : σ.look x = .o (.ptr ob g off)) (hy : σ.look y = .p (.v (.pointer none))) (hd : dOk C o.dst = true) :
    LOp C o σ ⟨.p (.v (.bool false)), []⟩ (fun _ => false) :=
  lop_val hd fun τ a w G hl hm h => by
    obtain ⟨b, c, h1, h2⟩ := look_of h ((hl x (by simp [ho, Op.operands])).trans hx)
    have e2 := val_of h ((hl y (by simp [ho, Op.operands])).trans hy)
    obtain ⟨d, hdd, hk⟩ := hT.undd
    have : d = .pointer e := by cases d <;> simp [TK.of] at hk; rw [hk]
    subst this
    refine ⟨.bool false, ?_, rfl, rfl⟩
    have hr := run_eql_pointer_nil (P := C.P) w t (some ⟨b, off, none⟩) (by simp [Program.pointee, hdd])
    simp only [execOp, ho, h2, e2, Sem.run_bind]
    have hg : (eqGuard .eql t x y (.pointer (some ⟨b, off, none⟩)) (.pointer none)).run C.P w = .ok () w := by
      unfold eqGuard; simp [pure]
    rw [hg]; simp [hr]
theorem lop_nil_eqnil {t e t' : TypeId} {x y : Operand} {sz by_ : Nat} [hT : TI C.P t (.ptr e) sz by_] (ho : o.op = .binOp .eql t x y t') (hx : σ.look x = .p (.v (.pointer none))) (hy : σ.look y = .p (.v (.pointer none))) (hd : dOk C o.dst = true) :
    LOp C o σ ⟨.p (.v (.bool true)), []⟩ (fun _ => false) :=
  lop_val hd fun τ a w G hl hm h => by
    have h2 := val_of h ((hl x (by simp [ho, Op.operands])).trans hx)
    have e2 := val_of h ((hl y (by simp [ho, Op.operands])).trans hy)
    obtain ⟨d, hdd, hk⟩ := hT.undd
    have : d = .pointer e := by cases d <;> simp [TK.of] at hk; rw [hk]
    subst this
    refine ⟨.bool true, ?_, rfl, rfl⟩
    have hr := run_eql_pointer_nil (P := C.P) w t none (by simp [Program.pointee, hdd])
    simp only [execOp, ho, h2, e2, Sem.run_bind]
    have hg : (eqGuard .eql t x y (.pointer none) (.pointer none)).run C.P w = .ok () w := by
      unfold eqGuard; simp [pure]
    rw [hg]; simp [hr]

/-! own slices -/
/-- an element of an own slice -/
theorem lop_indexAddr_osl {T e : TypeId} {x ix : Operand} {sz by_ : Nat} [hT : TI C.P T (.slice e) sz by_] {ke : TK} {sze be : Nat} [he : TI C.P e ke sze be] {ob g n len ty : Nat} {rows : List (List PVal)} {k : IntKind} {i : Int}
    (ho : o.op = .indexAddr T x ix) (hx : σ.look x = .o (.osl ob g sze 0 len)) (hm : σ.mem ob = (n, some (.buf ty sze rows))) (hn : n = g + 1) (hl : len ≤ rows.length) (hi : σ.look ix = .p (.v (.int k i))) (h0 : 0 ≤ i) (hb : i < len) (hd : dOk C o.dst = true) :
    LOp C o σ ⟨.o (.ptr ob g (i.toNat * sze)), []⟩ (fun y => y == ob) :=
  lop_val hd fun τ a w G hl' hm' h => by
    subst hn
    obtain ⟨m, c, h1, h2, h3⟩ := look_of h ((hl' x (by simp [ho, Op.operands])).trans hx)
    have e2 := val_of h ((hl' ix (by simp [ho, Op.operands])).trans hi)
    obtain ⟨g', m', hg, hmm, hes, hmax, hrl, hh⟩ := h.mem ob _ _ (by rw [hm' ob (by simp)]; exact hm)
    obtain rfl : g = g' := by omega
    rw [h1] at hmm; obtain rfl := Option.some.inj hmm
    rcases hh with ⟨h4, h5, _⟩ | ⟨b, arr, h4, h5, h6, h7, h8⟩
    · simp only at h5 hrl; omega
    · simp only at h4; subst h4
      obtain ⟨d, hdd, hk⟩ := hT.undd
      have : d = .slice e := by cases d <;> simp [TK.of] at hk; rw [hk]
      subst this
      refine ⟨.pointer (some ⟨b, i.toNat * sze, none⟩), ?_, b, c, h1, rfl⟩
      have hb' : 0 ≤ i ∧ i < (len : Int) := ⟨h0, hb⟩
      simp [execOp, ho, h3, e2, Instr.indexAt, asIntOf, run_underlying hdd, hb', he.run_sizeOf, add_addr]
/-- one cell of an own slice's memory -/
theorem lop_load_buf {T : TypeId} {x : Operand} {k : TK} {sz by_ : Nat} [hT : TI C.P T k sz by_] {ob g n ty i : Nat} {rows : List (List PVal)} {p : PVal} (ho : o.op = .load T x) (hx : σ.look x = .o (.ptr ob g (i * 1))) (hm : σ.mem ob = (n, some (.buf ty 1 rows))) (hn : n = g + 1)
    (hk : k.agg = false) (hs : sz = 1) (hr : rows[i]? = some [p]) (hd : dOk C o.dst = true) : LOp C o σ ⟨.p p, []⟩ (fun y => y == ob) :=
  lop_val hd fun τ a w G hl' hm' h => by
    subst hn hs
    obtain ⟨b, c', h1, h2⟩ := look_of h ((hl' x (by simp [ho, Op.operands])).trans hx)
    obtain ⟨g', m', hg, hmm, hes, hmax, hrl, hh⟩ := h.mem ob _ _ (by rw [hm' ob (by simp)]; exact hm)
    obtain rfl : g = g' := by omega
    rw [h1] at hmm; obtain rfl := Option.some.inj hmm
    rcases hh with ⟨h4, _⟩ | ⟨b', arr, h4, h5, h6, h7, h8⟩
    · simp at h4
    · simp only [Option.some.injEq] at h4; subst h4
      obtain ⟨v, hv, hp⟩ := (h8 i _ hr).2 0 p rfl
      have hv' : arr[i]? = some v := by simpa using hv
      have hlt : i < arr.size := (Array.getElem?_eq_some_iff.1 hv').1
      have hrun := run_loadVar (P := C.P) hT (w := w) (b := b) (off := i) (arr := arr.toList) (ty := ty) (fr := (0, 0)) (by simpa using h6) (by simp; omega) (by simp)
      simp only [hk, Bool.false_eq_true, if_false] at hrun
      refine ⟨v, ?_, hp⟩
      have : arr.toList.getD i undef = v := by simp [hv']
      rw [this] at hrun
      simp [execOp, ho, h2, Instr.loadAt, Instr.sureAddr, hrun]
/-- into an element of an own slice's memory -/
theorem lop_store_row {T : TypeId} {x y : Operand} {k : TK} {sz by_ : Nat} [hT : TI C.P T k sz by_] {ob g n ty i : Nat} {rows : List (List PVal)} {row : List PVal} {s : SV} (ho : o.op = .store T x y) (hdst : o.dst = none) (hx : σ.look x = .o (.ptr ob g (i * sz))) (hy : σ.look y = .s s)
    (hsc : s.cells = row.map .p) (hrl : row.length = sz) (hm : σ.mem ob = (n, some (.buf ty sz rows))) (hn : n = g + 1) (hi : i < rows.length) : LOp C o σ ⟨.un, [(ob, (n, some (.buf ty sz (rows.set i row))))]⟩ (fun z => z == ob) :=
  lop_same (by simp) (by rw [hdst]; rfl) hm fun τ a w G g0 m hl' hm' h hng hmm hh => by
    subst hn
    obtain rfl : g = g0 := by omega
    obtain ⟨b, c', h1, h2⟩ := look_of h ((hl' x (by simp [ho, Op.operands])).trans hx)
    have h3 : s.holds G.μ ⟨w, G.S⟩ (a.eval y) := look_of h ((hl' y (by simp [ho, Op.operands])).trans hy)
    obtain ⟨hes, hmax, hrl2, hh⟩ := hh
    rw [h1] at hmm; obtain rfl := Option.some.inj hmm
    rcases hh with ⟨h4, _⟩ | ⟨b', arr, h4, h5, h6, h7, h8⟩
    · simp at h4
    · simp only [Option.some.injEq] at h4; subst h4
      have h9 := h3.cells
      rw [hsc] at h9
      have hvl : (a.eval y).cells.toList.length = sz := by rw [← h9.1]; simpa using hrl
      have hone : ∀ u ∈ (a.eval y).cells.toList, u.oneCell' = true := fun u hu => by
        obtain ⟨j, hj, hu'⟩ := List.mem_iff_getElem.1 hu
        have hj' : j < (row.map AC.p).length := by rw [h9.1]; exact hj
        exact (h9.2 j (row.map AC.p)[j] u (by simp [hj']) (by rw [← hu']; exact List.getElem?_eq_getElem _)).one
      have hmul : i * sz + sz ≤ arr.size := by
        simp only at h7 hrl2
        rw [h7]
        calc i * sz + sz = (i + 1) * sz := by rw [Nat.add_mul, Nat.one_mul]
          _ ≤ c' * sz := Nat.mul_le_mul_right _ (by omega)
      have h6' : w.heap[b]? = some (.cells arr.toList.toArray ty (0, 0)) := by simpa using h6
      have hr := run_storeVar hT h6' (off := i * sz) (v := a.eval y) (by simpa using hmul) (by simpa using hvl) hone
      have hle : Wd.le ⟨w, G.S⟩ ⟨w.setRow b (arr.toList.take (i * sz) ++ (a.eval y).cells.toList ++ arr.toList.drop (i * sz + sz)).toArray, G.S⟩ := fun k hk =>
        ⟨hk, setRow_other w b k _ fun e => h.stab ob b (by rw [h5]; simp) (e ▸ hk)⟩
      refine ⟨.skip, undef, w.setRow b (arr.toList.take (i * sz) ++ (a.eval y).cells.toList ++ arr.toList.drop (i * sz + sz)).toArray, ?_, .inr ⟨rfl, rfl⟩, setRow_frame.1, setRow_frame.2.1, setRow_frame.2.2.1, setRow_frame.2.2.2,
        fun k _ hk => setRow_other w b k _ fun e => hk (by rw [h5, e]; simp), ⟨hes, hmax, by simpa using hrl2, .inr ⟨b, _, rfl, h5, setRow_heap w b _ _ ty _ h6', ?_, ?_⟩⟩, trivial⟩
      · simp only [execOp, ho, h2, Instr.storeAt, Instr.sureAddr, Sem.run_bind, Sem.run_pure, Result.andThen_ok, hr]
      · simp only [List.size_toArray, List.length_append, List.length_take, List.length_drop, Array.length_toList, hvl]
        rw [Nat.min_eq_left (by omega)]
        simp only at h7; omega
      · intro q r hq
        by_cases hqi : q = i
        · subst hqi
          rw [List.getElem?_set_self hi] at hq
          obtain rfl := Option.some.inj hq
          refine ⟨hrl, fun j p hp => ?_⟩
          obtain ⟨v, hv, hpv⟩ := h9.get (i := j) (a := .p p) (by simp [hp])
          refine ⟨v, ?_, p.mono hle hpv⟩
          have hj : j < (a.eval y).cells.toList.length := (List.getElem?_eq_some_iff.1 hv).1
          simp only [Nat.zero_add, List.getElem?_toArray]
          rw [List.append_assoc, List.getElem?_append_right (by simp; omega), List.getElem?_append_left (by simp at hj ⊢; omega), ← hv]
          congr 1; simp; omega
        · rw [List.getElem?_set_ne (fun e => hqi e.symm)] at hq
          obtain ⟨e1, e2⟩ := h8 q r hq
          refine ⟨e1, fun j p hp => ?_⟩
          obtain ⟨v, hv, hpv⟩ := e2 j p hp
          refine ⟨v, ?_, p.mono hle hpv⟩
          have hj : j < sz := by rw [← e1]; exact (List.getElem?_eq_some_iff.1 hp).1
          rw [← hv]
          simp only [Nat.zero_add, List.getElem?_toArray]
          rcases Nat.lt_or_ge q i with hlt | hge
          · have : q * sz + sz ≤ i * sz := by
              calc q * sz + sz = (q + 1) * sz := by rw [Nat.add_mul, Nat.one_mul]
                _ ≤ i * sz := Nat.mul_le_mul_right _ hlt
            rw [List.append_assoc, List.getElem?_append_left (by simp; omega), List.getElem?_take, if_pos (by omega)]; simp
          · have : i * sz + sz ≤ q * sz := by
              calc i * sz + sz = (i + 1) * sz := by rw [Nat.add_mul, Nat.one_mul]
                _ ≤ q * sz := Nat.mul_le_mul_right _ (by omega)
            rw [List.getElem?_append_right (by simp [hvl] at *; omega), List.getElem?_drop]
            simp only [List.length_append, List.length_take, Array.length_toList, hvl]
            rw [Nat.min_eq_left (by omega)]
            rw [show i * sz + sz + (q * sz + j - (i * sz + sz)) = q * sz + j from by omega]; simp
theorem lop_store_buf {T : TypeId} {x y : Operand} {k : TK} {sz by_ : Nat} [hT : TI C.P T k sz by_] {ob g n ty i es : Nat} {rows : List (List PVal)} {p : PVal} (ho : o.op = .store T x y) (hdst : o.dst = none) (hx : σ.look x = .o (.ptr ob g (i * 1))) (hy : σ.look y = .p p) (hs : sz = 1)
    (hm : σ.mem ob = (n, some (.buf ty es rows))) (he : es = 1) (hn : n = g + 1) (hi : i < rows.length) : LOp C o σ ⟨.un, [(ob, (n, some (.buf ty es (rows.set i [p]))))]⟩ (fun z => z == ob) := by
  subst hs he; exact lop_store_row (s := .one (.p p)) ho hdst hx hy rfl rfl hm hn hi

/-- appended to a slice of which nobody may see more: it stays as it is -/
theorem lop_append_ex {T e : TypeId} {x y : Operand} {sz by_ : Nat} [hT : TI C.P T (.slice e) sz by_] {ke : TK} {es be : Nat} [he : TI C.P e ke es be] {z : List Value} [hz : TZ C.P e z] {rows news : List (List PVal)} {ro : Nat → Bool}
    (ho : o.op = .call ⟨.builtin .append, #[x, y], #[T, T]⟩) (hx : σ.look x = .p (.sl es rows true)) (hsrc : SrcOk C σ y es news ro) (hzl : z.length = es) (h63 : rows.length + news.length ≤ maxLen) (hby : (rows.length + news.length) * be ≤ 140737488355328) (hd : dOk C o.dst = true) :
    LOp C o σ ⟨.p (.sl es (rows ++ news) false), []⟩ ro :=
  lop_grow hd fun τ a w G hl hm' h => by
    obtain ⟨bs, cap0, p1, p2, p3, p4, p5⟩ := look_of h ((hl x (by simp [ho, Op.operands, Call.operands])).trans hx)
    obtain rfl := p4 rfl
    obtain ⟨base, cap, h1, h2⟩ := hsrc τ a w G (hl y (by simp [ho, Op.operands, Call.operands])) (fun q hq => hm' q hq) h
    obtain ⟨nvs, k1, k2, k3, k4⟩ := src_vals (τ := τ) (a := a) h2
    by_cases h0 : news.length = 0
    · have hnil : news = [] := List.eq_nil_of_length_eq_zero h0
      subst hnil
      have hr := app_nothing (ty := o.type) hT he (w := w) (bs := bs) (src := base) (n := rows.length) (cap := rows.length) (c := cap) (Nat.le_refl _)
      refine ⟨.slice bs rows.length rows.length, w, ?_, Quiet.refl w, ?_⟩
      · simp only [execOp, ho, resolve, invoke, builtin, Sem.run_bind, Sem.run_pure, Result.andThen_ok, List.map_toArray, List.map_cons, List.map_nil, p1, h1, List.length_nil, hr]
      · simp only [List.append_nil]
        have : (PVal.sl es rows false).holds ⟨w, G.S⟩ (.slice bs rows.length rows.length) := ⟨bs, rows.length, rfl, p2, p3, by simp, p5⟩
        exact (PVal.sl es rows false).mono (x := ⟨w, G.S⟩) (fun b hb => ⟨.inl hb, rfl⟩) this
    · have hold : ∃ olds : List Value, ((bs = none ∧ rows.length = 0 ∧ rows.length = 0 ∧ olds = []) ∨ ∃ b, bs = some b ∧ olds.length = rows.length * es ∧ rows.length ≤ rows.length ∧ ∀ j u, olds[j]? = some u → w.cell? (b.add j) = some u) ∧
          olds.length = rows.length * es ∧ (∀ i row, rows[i]? = some row → row.length = es ∧ ∀ j p, row[j]? = some p → ∃ u, olds[i * es + j]? = some u ∧ p.holds ⟨w, G.S⟩ u) := by
        cases bs with
        | none =>
          obtain ⟨q1, q2⟩ := p5
          subst q1
          exact ⟨[], .inl ⟨rfl, rfl, rfl, rfl⟩, by simp, by simp⟩
        | some b =>
          rcases p5 with p5 | ⟨g1, g2, cs, ty, fr, g3, g4⟩
          · subst p5
            exact ⟨[], .inr ⟨b, rfl, by simp, Nat.le_refl _, by simp⟩, by simp, by simp⟩
          have hcell : ∀ j, w.cell? (b.add j) = cs[b.off + j]? := fun j => cell_at g1 g3 j
          obtain ⟨vs, q1, q2, q3, q4⟩ := rows_vals (X := ⟨w, G.S⟩) (es := es) (f := fun j => w.cell? (b.add j)) rows (fun i row hr => ⟨(g4 i row hr).1, fun j p hp => by
            obtain ⟨u, hu, hpu⟩ := (g4 i row hr).2 j p hp
            exact ⟨u, by simp only [hcell]; rw [← hu]; congr 1; omega, hpu⟩⟩)
          exact ⟨vs, .inr ⟨b, rfl, q1, Nat.le_refl _, fun j u hu => q2 j u hu⟩, q1, q4⟩
      obtain ⟨olds, hb, hol, ho4⟩ := hold
      obtain ⟨cap', arr, hr, g1, g2, g3, g4⟩ := app_fresh (ty := o.type) hT he hz hzl (w := w) (src := base) (m := news.length) (c := cap) (news := nvs) hb k1 k2 (by omega) h63 hby
      refine ⟨.slice (some ⟨w.heap.size, 0, none⟩) (rows.length + news.length) cap', w.drew.alloc (.cells arr e), by
        simp only [execOp, ho, resolve, invoke, builtin, Sem.run_bind, Sem.run_pure, Result.andThen_ok, List.map_toArray, List.map_cons, List.map_nil, p1, h1, hr],
        ⟨rfl, rfl, rfl, by simp, fun k hk => Below.heap_alloc w.drew _ k hk⟩, ?_⟩
      refine ⟨some ⟨w.heap.size, 0, none⟩, cap', by simp, by simpa using g1, g2, by simp, .inr ⟨rfl, .inr ⟨Nat.le_refl _, by simp⟩, arr, e, (0, 0), heap_alloc_new w.drew _, ?_⟩⟩
      have := rowsAt_append (X := ⟨w, G.S⟩) (arr := arr) (es := es) (rows := rows) (news := news) (olds := olds) (nvs := nvs) hol k1 g4 ho4 k4
      intro i row hrow
      refine ⟨(this i row hrow).1, fun j p hp => ?_⟩
      obtain ⟨u, hu, hpu⟩ := (this i row hrow).2 j p hp
      refine ⟨u, by simpa using hu, p.mono (x := ⟨w, G.S⟩) (fun b hb => ⟨.inl hb, Below.heap_alloc w.drew _ b (h.sbd b hb).1⟩) hpu⟩

/-- so many zero elements -/
theorem lop_makeSlice {T e : TypeId} {x y : Operand} {sz by_ : Nat} [hT : TI C.P T (.slice e) sz by_] {ke : TK} {es be : Nat} [he : TI C.P e ke es be] {v : Value} [hz : TZ C.P e [v]] {d n : Nat} {mo0 : Option MO} {kx ky : IntKind} {m c : Int}
    (ho : o.op = .makeSlice T x y) (hdst : o.dst = some d) (hx : σ.look x = .p (.v (.int kx m))) (hy : σ.look y = .p (.v (.int ky c))) (hmc : m = c) (hes : es = 1) (h0 : 0 ≤ c) (h63 : c ≤ 9223372036854775807) (hby : (be : Int) * c ≤ 281474976710656) (h1 : v.oneCell' = true) (hm : σ.mem d = (n, mo0)) (hd : dOk C o.dst = true) :
    LOp C o σ ⟨.o (.osl d n es 0 c.toNat), [(d, (n + 1, some (.buf e es (List.replicate c.toNat [.v v]))))]⟩ (fun q => q == d) :=
  lop_gen (by simp) hd hm fun τ a w G hl hm' h => by
    subst hmc hes
    have e1 := val_of h ((hl x (by simp [ho, Op.operands])).trans hx)
    have e2 := val_of h ((hl y (by simp [ho, Op.operands])).trans hy)
    have hlen : (G.μ d).length = n := by have := h.gens d; rw [hm' d (by simp), hm] at this; exact this
    obtain ⟨dd, hdd, hkk⟩ := hT.undd
    have : dd = .slice e := by cases dd <;> simp [TK.of] at hkk; rw [hkk]
    subst this
    obtain ⟨i, hi, his, hib⟩ := he.infoo
    have hzz := hz.zero
    simp only [hi, Option.bind_some] at hzz
    cases hz0 : i.zero with
    | none => simp [hz0] at hzz
    | some zv =>
      simp only [hz0, Option.map_some, Option.some.injEq] at hzz
      have hzc : zv.cells = #[v] := by rw [← Array.toList_inj]; simpa using hzz
      have hr := run_make (P := C.P) w T e i zv hdd hi hz0 kx ky m m h0 (Int.le_refl _) (by rw [hib]; exact hby) h63
      have hsz : (madeCells zv.cells (m.toNat * i.size)).size = m.toNat := by rw [size_madeCells, his]; omega
      refine ⟨.slice (some ⟨w.heap.size, 0, none⟩) m.toNat m.toNat, w.alloc (.cells (madeCells zv.cells (m.toNat * i.size)) e), (some w.heap.size, m.toNat), [w.heap.size], ?_, rfl, rfl, rfl, by simp, fun k hk _ => Below.heap_alloc w _ k hk, by simp, ?_, ?_⟩
      · simp only [execOp, ho, e1, e2, Sem.run_bind, hr, Result.andThen_ok, Sem.run_pure]
      · refine ⟨by omega, by simp [maxLen]; omega, by simp, .inr ⟨w.heap.size, _, rfl, rfl, heap_alloc_new w _, by simpa using hsz, ?_⟩⟩
        intro q row hq
        rw [List.getElem?_replicate] at hq
        split at hq
        · rename_i hlt
          obtain rfl := Option.some.inj hq
          refine ⟨rfl, fun j p hp => ?_⟩
          cases j with
          | zero =>
            simp only [List.getElem?_cons_zero, Option.some.injEq] at hp; subst hp
            refine ⟨v, ?_, rfl, h1⟩
            have hlt' : q < m.toNat * i.size := by rw [his]; omega
            simp [madeCells, hzc, hlt', Nat.mod_one]
          | succ j => simp at hp
        · cases hq
      · exact ⟨some w.heap.size, m.toNat, mu_new hlen, by simp, by simp⟩
end ops
end Go.Aw
