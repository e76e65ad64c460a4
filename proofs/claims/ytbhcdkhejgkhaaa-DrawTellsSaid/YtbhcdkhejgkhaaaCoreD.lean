/- THE ABSTRACT WALK, part 4: operations that reckon or read. -/
import Derived.Test.YtbhcdkhejgkhaaaCoreC
namespace Go.Aw
open Go Go.RowKit
set_option linter.unusedVariables false
set_option linter.unusedSimpArgs false

section ops
variable {C : Ctx} {o : Oper} {σ : St}

theorem lop_val {av : AV} {ro : Nat → Bool} (hd : dOk C o.dst = true)
    (h : ∀ τ a w G, (∀ x, x ∈ o.op.operands → τ.look x = σ.look x) → (∀ x, ro x = true → τ.mem x = σ.mem x) → RelG C τ a w G →
      ∃ v, (execOp a.eval o).run C.P w = .ok (.value v) w ∧ av.holds G.μ ⟨w, G.S⟩ v) : LOp C o σ ⟨av, []⟩ ro := by
  refine ⟨fun x m h => by simp at h, fun τ hl hm a w ⟨G, hG⟩ K Q hK => ?_⟩
  obtain ⟨v, hv, hh⟩ := h τ a w G hl hm hG
  refine wpIn_exec (notDefer hv (by first | (intro d h; cases h; done) | (rcases h0 with rfl | ⟨rfl, _⟩ <;> intro d h <;> cases h))) ?_
  rw [hv]
  exact hK _ _ ⟨G, hG.setv hd hh⟩

/-- a value, and a world that has grown -/
theorem lop_grow {av : AV} {ro : Nat → Bool} (hd : dOk C o.dst = true)
    (h : ∀ τ a w G, (∀ x, x ∈ o.op.operands → τ.look x = σ.look x) → (∀ x, ro x = true → τ.mem x = σ.mem x) → RelG C τ a w G →
      ∃ v w', (execOp a.eval o).run C.P w = .ok (.value v) w' ∧ Quiet w w' ∧ av.holds G.μ ⟨w', fun b => G.S b ∨ (w.heap.size ≤ b ∧ b < w'.heap.size)⟩ v) : LOp C o σ ⟨av, []⟩ ro := by
  refine ⟨fun x m h => by simp at h, fun τ hl hm a w ⟨G, hG⟩ K Q hK => ?_⟩
  obtain ⟨v, w', hv, hq, hh⟩ := h τ a w G hl hm hG
  refine wpIn_exec (notDefer hv (by first | (intro d h; cases h; done) | (rcases h0 with rfl | ⟨rfl, _⟩ <;> intro d h <;> cases h))) ?_
  rw [hv]
  exact hK _ _ ⟨_, (hG.world hq (fun b => w.heap.size ≤ b ∧ b < w'.heap.size) (fun b hb => hb)).setv hd hh⟩

theorem look_of {τ : St} {a : Act} {w : World} {G : Gh} (h : RelG C τ a w G) {x : Operand} {av : AV} (hx : τ.look x = av) : av.holds G.μ ⟨w, G.S⟩ (a.eval x) := hx ▸ h.look x
theorem val_of {τ : St} {a : Act} {w : World} {G : Gh} (h : RelG C τ a w G) {x : Operand} {c : Value} (hx : τ.look x = .p (.v c)) : a.eval x = c := (look_of h hx).1

theorem lop_move {x : Operand} {av : AV} (ho : o.op = .move x) (hx : σ.look x = av) (hd : dOk C o.dst = true) : LOp C o σ ⟨av, []⟩ (fun _ => false) :=
  lop_val hd fun τ a w G hl hm h => ⟨a.eval x, by simp [execOp, ho], look_of h (by rw [hl x (by simp [ho, Op.operands])]; exact hx)⟩
theorem lop_assign {x : Operand} {av : AV} (ho : o.op = .assign x) (hx : σ.look x = av) (hd : dOk C o.dst = true) : LOp C o σ ⟨av, []⟩ (fun _ => false) :=
  lop_val hd fun τ a w G hl hm h => ⟨a.eval x, by simp [execOp, ho], look_of h (by rw [hl x (by simp [ho, Op.operands])]; exact hx)⟩
theorem lop_pick_t {c x y : Operand} {b : Bool} {av : AV} (ho : o.op = .pick c x y) (hc : σ.look c = .p (.v (.bool b))) (hb : b = true) (hx : σ.look x = av) (hd : dOk C o.dst = true) : LOp C o σ ⟨av, []⟩ (fun _ => false) :=
  lop_val hd fun τ a w G hl hm h => by
    have hcv := val_of h ((hl c (by simp [ho, Op.operands])).trans hc)
    exact ⟨a.eval x, by simp [execOp, ho, hcv, asBool, hb], look_of h (by rw [hl x (by simp [ho, Op.operands])]; exact hx)⟩
theorem lop_pick_f {c x y : Operand} {b : Bool} {av : AV} (ho : o.op = .pick c x y) (hc : σ.look c = .p (.v (.bool b))) (hb : b = false) (hx : σ.look y = av) (hd : dOk C o.dst = true) : LOp C o σ ⟨av, []⟩ (fun _ => false) :=
  lop_val hd fun τ a w G hl hm h => by
    have hcv := val_of h ((hl c (by simp [ho, Op.operands])).trans hc)
    exact ⟨a.eval y, by simp [execOp, ho, hcv, asBool, hb], look_of h (by rw [hl y (by simp [ho, Op.operands])]; exact hx)⟩

/-- an operation on two known values -/
theorem lop_bin {op : BinOp} {t t' : TypeId} {x y : Operand} {vx vy r : Value} (ho : o.op = .binOp op t x y t') (hx : σ.look x = .p (.v vx)) (hy : σ.look y = .p (.v vy))
    (hr : ∀ w : World, (do eqGuard op t x y vx vy; binOp op t vx vy : Sem Value).run C.P w = .ok r w) (h1 : r.oneCell' = true) (hd : dOk C o.dst = true) : LOp C o σ ⟨.p (.v r), []⟩ (fun _ => false) :=
  lop_val hd fun τ a w G hl hm h => by
    have e1 := val_of h ((hl x (by simp [ho, Op.operands])).trans hx)
    have e2 := val_of h ((hl y (by simp [ho, Op.operands])).trans hy)
    refine ⟨r, ?_, rfl, h1⟩
    simp only [execOp, ho, e1, e2]
    rw [Sem.run_bind, hr w]; rfl

section int
variable {t t' : TypeId} {x y : Operand} {k k' : IntKind} {m n : Int}
theorem eqg_int (op : BinOp) (w : World) : (eqGuard op t x y (.int k m) (.int k' n)).run C.P w = .ok () w := by
  unfold eqGuard; cases op <;> simp [pure]
theorem lop_add (ho : o.op = .binOp .add t x y t') (hx : σ.look x = .p (.v (.int k m))) (hy : σ.look y = .p (.v (.int k n))) (hd : dOk C o.dst = true) : LOp C o σ ⟨.p (.v (.int k (k.wrap (m + n)))), []⟩ (fun _ => false) :=
  lop_bin ho hx hy (fun w => by simp [eqg_int, binOp, Op.intArith]) rfl hd
theorem lop_sub (ho : o.op = .binOp .sub t x y t') (hx : σ.look x = .p (.v (.int k m))) (hy : σ.look y = .p (.v (.int k n))) (hd : dOk C o.dst = true) : LOp C o σ ⟨.p (.v (.int k (k.wrap (m - n)))), []⟩ (fun _ => false) :=
  lop_bin ho hx hy (fun w => by simp [eqg_int, binOp, Op.intArith]) rfl hd
theorem lop_mul (ho : o.op = .binOp .mul t x y t') (hx : σ.look x = .p (.v (.int k m))) (hy : σ.look y = .p (.v (.int k n))) (hd : dOk C o.dst = true) : LOp C o σ ⟨.p (.v (.int k (k.wrap (m * n)))), []⟩ (fun _ => false) :=
  lop_bin ho hx hy (fun w => by simp [eqg_int, binOp, Op.intArith]) rfl hd
/-- with the result's bounds at hand no wrap is seen -/
theorem lop_add' (ho : o.op = .binOp .add t x y t') (hx : σ.look x = .p (.v (.int k m))) (hy : σ.look y = .p (.v (.int k n))) (hd : dOk C o.dst = true) (hw : k.wrap (m + n) = m + n) : LOp C o σ ⟨.p (.v (.int k (m + n))), []⟩ (fun _ => false) := by
  have := lop_add ho hx hy hd; rwa [hw] at this
theorem lop_sub' (ho : o.op = .binOp .sub t x y t') (hx : σ.look x = .p (.v (.int k m))) (hy : σ.look y = .p (.v (.int k n))) (hd : dOk C o.dst = true) (hw : k.wrap (m - n) = m - n) : LOp C o σ ⟨.p (.v (.int k (m - n))), []⟩ (fun _ => false) := by
  have := lop_sub ho hx hy hd; rwa [hw] at this
theorem lop_mul' (ho : o.op = .binOp .mul t x y t') (hx : σ.look x = .p (.v (.int k m))) (hy : σ.look y = .p (.v (.int k n))) (hd : dOk C o.dst = true) (hw : k.wrap (m * n) = m * n) : LOp C o σ ⟨.p (.v (.int k (m * n))), []⟩ (fun _ => false) := by
  have := lop_mul ho hx hy hd; rwa [hw] at this
theorem lop_quo (ho : o.op = .binOp .quo t x y t') (hx : σ.look x = .p (.v (.int k m))) (hy : σ.look y = .p (.v (.int k n))) (hn : n ≠ 0) (hd : dOk C o.dst = true) : LOp C o σ ⟨.p (.v (.int k (k.wrap (m.tdiv n)))), []⟩ (fun _ => false) :=
  lop_bin ho hx hy (fun w => by simp [eqg_int, binOp, Op.intDiv, hn]) rfl hd
theorem lop_quo' (ho : o.op = .binOp .quo t x y t') (hx : σ.look x = .p (.v (.int k m))) (hy : σ.look y = .p (.v (.int k n))) (hd : dOk C o.dst = true) (hm : 0 ≤ m) (hn : 1 ≤ n) (hw : k.wrap (m / n) = m / n) : LOp C o σ ⟨.p (.v (.int k (m / n))), []⟩ (fun _ => false) := by
  have := lop_quo ho hx hy (by omega) hd; rwa [Int.tdiv_eq_ediv_of_nonneg hm, hw] at this
theorem lop_rem (ho : o.op = .binOp .rem t x y t') (hx : σ.look x = .p (.v (.int k m))) (hy : σ.look y = .p (.v (.int k n))) (hn : n ≠ 0) (hd : dOk C o.dst = true) : LOp C o σ ⟨.p (.v (.int k (m.tmod n))), []⟩ (fun _ => false) :=
  lop_bin ho hx hy (fun w => by simp [eqg_int, binOp, Op.intDiv, hn]) rfl hd
theorem lop_rem' (ho : o.op = .binOp .rem t x y t') (hx : σ.look x = .p (.v (.int k m))) (hy : σ.look y = .p (.v (.int k n))) (hd : dOk C o.dst = true) (hm : 0 ≤ m) (hn : 1 ≤ n) : LOp C o σ ⟨.p (.v (.int k (m % n))), []⟩ (fun _ => false) := by
  have := lop_rem ho hx hy (by omega) hd; rwa [Int.tmod_eq_emod_of_nonneg hm] at this
/-- a comparison, told by a proposition -/
theorem lop_cmp {op : BinOp} {p : Prop} [Decidable p] (ho : o.op = .binOp op t x y t') (hx : σ.look x = .p (.v (.int k m))) (hy : σ.look y = .p (.v (.int k n)))
    (hr : ∀ w : World, (binOp op t (.int k m) (.int k n)).run C.P w = .ok (.bool (decide p)) w) (hd : dOk C o.dst = true) : LOp C o σ ⟨.p (.v (.bool (decide p))), []⟩ (fun _ => false) :=
  lop_bin ho hx hy (fun w => by simp [eqg_int, hr]) rfl hd
theorem lop_lss (ho : o.op = .binOp .lss t x y t') (hx : σ.look x = .p (.v (.int k m))) (hy : σ.look y = .p (.v (.int k n))) (hd : dOk C o.dst = true) : LOp C o σ ⟨.p (.v (.bool (decide (m < n)))), []⟩ (fun _ => false) :=
  lop_cmp ho hx hy (fun w => by simp [binOp, Op.intCmp]) hd
theorem lop_leq (ho : o.op = .binOp .leq t x y t') (hx : σ.look x = .p (.v (.int k m))) (hy : σ.look y = .p (.v (.int k n))) (hd : dOk C o.dst = true) : LOp C o σ ⟨.p (.v (.bool (decide (m ≤ n)))), []⟩ (fun _ => false) :=
  lop_cmp ho hx hy (fun w => by simp [binOp, Op.intCmp]) hd
theorem lop_gtr (ho : o.op = .binOp .gtr t x y t') (hx : σ.look x = .p (.v (.int k m))) (hy : σ.look y = .p (.v (.int k n))) (hd : dOk C o.dst = true) : LOp C o σ ⟨.p (.v (.bool (decide (n < m)))), []⟩ (fun _ => false) :=
  lop_cmp ho hx hy (fun w => by simp [binOp, Op.intCmp]) hd
theorem lop_geq (ho : o.op = .binOp .geq t x y t') (hx : σ.look x = .p (.v (.int k m))) (hy : σ.look y = .p (.v (.int k n))) (hd : dOk C o.dst = true) : LOp C o σ ⟨.p (.v (.bool (decide (n ≤ m)))), []⟩ (fun _ => false) :=
  lop_cmp ho hx hy (fun w => by simp [binOp, Op.intCmp]) hd
theorem lop_eql (ho : o.op = .binOp .eql t x y t') (hx : σ.look x = .p (.v (.int k m))) (hy : σ.look y = .p (.v (.int k n))) (hd : dOk C o.dst = true) : LOp C o σ ⟨.p (.v (.bool (decide (m = n)))), []⟩ (fun _ => false) :=
  lop_cmp ho hx hy (fun w => by simp [binOp, Op.intCmp]; rfl) hd
theorem lop_neq (ho : o.op = .binOp .neq t x y t') (hx : σ.look x = .p (.v (.int k m))) (hy : σ.look y = .p (.v (.int k n))) (hd : dOk C o.dst = true) : LOp C o σ ⟨.p (.v (.bool (decide (m ≠ n)))), []⟩ (fun _ => false) :=
  lop_cmp ho hx hy (fun w => by simp [binOp, Op.intCmp, bne, BEq.beq]) hd
end int

section bool
variable {t t' : TypeId} {x y : Operand} {p q : Bool}
theorem eqg_bool (op : BinOp) (w : World) : (eqGuard op t x y (.bool p) (.bool q)).run C.P w = .ok () w := by
  unfold eqGuard; cases op <;> simp [pure]
theorem run_eqBool' {P : Program} {t : TypeId} (hd : P.underlying t = some .bool) (d : Nat) (p q : Bool) (w : World) : (Op.equalIn (d + 1) t (.bool p) (.bool q)).run P w = .ok (p == q) w := by
  simp [Op.equalIn, run_underlying hd]
theorem run_eqBool {P : Program} {t : TypeId} {d : TypeDesc} (hd : P.underlying t = some d) (hk : TK.of d = .bool) (p q : Bool) (w : World) : (Op.equal t (.bool p) (.bool q)).run P w = .ok (p == q) w := by
  have : d = .bool := by cases d <;> simp [TK.of] at hk; rfl
  subst this
  exact run_eqBool' hd 9999 p q w
theorem lop_eqlb {sz by_ : Nat} [hT : TI C.P t .bool sz by_] (ho : o.op = .binOp .eql t x y t') (hx : σ.look x = .p (.v (.bool p))) (hy : σ.look y = .p (.v (.bool q))) (hd : dOk C o.dst = true) : LOp C o σ ⟨.p (.v (.bool (p == q))), []⟩ (fun _ => false) :=
  lop_bin ho hx hy (fun w => by
    obtain ⟨d, hd, hk⟩ := hT.undd
    simp [eqg_bool, binOp, run_eqBool hd hk]) rfl hd
theorem lop_neqb {sz by_ : Nat} [hT : TI C.P t .bool sz by_] (ho : o.op = .binOp .neq t x y t') (hx : σ.look x = .p (.v (.bool p))) (hy : σ.look y = .p (.v (.bool q))) (hd : dOk C o.dst = true) : LOp C o σ ⟨.p (.v (.bool (p != q))), []⟩ (fun _ => false) :=
  lop_bin ho hx hy (fun w => by
    obtain ⟨d, hd, hk⟩ := hT.undd
    simp [eqg_bool, binOp, run_eqBool hd hk, bne]) rfl hd
theorem lop_not {x : Operand} {p : Bool} (ho : o.op = .unOp .not t x) (hx : σ.look x = .p (.v (.bool p))) (hd : dOk C o.dst = true) : LOp C o σ ⟨.p (.v (.bool (!p))), []⟩ (fun _ => false) :=
  lop_val hd fun τ a w G hl hm h => by
    have e1 := val_of h ((hl x (by simp [ho, Op.operands])).trans hx)
    exact ⟨.bool (!p), by simp [execOp, ho, e1, Op.unary], rfl, rfl⟩
end bool

theorem lop_neg {t : TypeId} {x : Operand} {k : IntKind} {n : Int} (ho : o.op = .unOp .neg t x) (hx : σ.look x = .p (.v (.int k n))) (hd : dOk C o.dst = true) : LOp C o σ ⟨.p (.v (.int k (k.wrap (0 - n)))), []⟩ (fun _ => false) :=
  lop_val hd fun τ a w G hl hm h => by
    have e1 := val_of h ((hl x (by simp [ho, Op.operands])).trans hx)
    exact ⟨_, by simp only [execOp, ho, e1, Op.unary, Op.intArith]; rfl, rfl, rfl⟩

theorem lop_extract {x : Operand} {ix : Nat} {vs : List SV} {s : SV} (ho : o.op = .extract x ix) (hx : σ.look x = .tup vs) (hs : vs[ix]? = some s) (hd : dOk C o.dst = true) : LOp C o σ ⟨.s s, []⟩ (fun _ => false) :=
  lop_val hd fun τ a w G hl hm h => by
    obtain ⟨arr, h1, h2⟩ := look_of h ((hl x (by simp [ho, Op.operands])).trans hx)
    obtain ⟨v, hv, hh⟩ := h2.get hs
    exact ⟨v, by simp [execOp, ho, h1, Instr.extract, hv], hh⟩

/-- int to int -/
theorem lop_conv {s d : TypeId} {x : Operand} {k k' : IntKind} {n : Int} {sz by_ : Nat} [hT : TI C.P d (.int k') sz by_] {ks : TK} {sz' by' : Nat} [hS : TI C.P s ks sz' by'] (ho : o.op = .convert s d x) (hx : σ.look x = .p (.v (.int k n))) (hd : dOk C o.dst = true) :
    LOp C o σ ⟨.p (.v (.int k' (k'.wrap n))), []⟩ (fun _ => false) :=
  lop_val hd fun τ a w G hl hm h => by
    have e1 := val_of h ((hl x (by simp [ho, Op.operands])).trans hx)
    obtain ⟨dd, hdd, hk⟩ := hT.undd
    obtain ⟨sd, hsd, hk'⟩ := hS.undd
    have : dd = .int k' := by cases dd <;> simp [TK.of] at hk; rw [hk]
    subst this
    exact ⟨_, by simp [execOp, ho, e1, convert, run_underlying hdd, run_underlying hsd, Conv.intToInt], rfl, rfl⟩
theorem lop_conv' {s d : TypeId} {x : Operand} {k k' : IntKind} {n : Int} {sz by_ : Nat} [hT : TI C.P d (.int k') sz by_] {ks : TK} {sz' by' : Nat} [hS : TI C.P s ks sz' by'] (ho : o.op = .convert s d x) (hx : σ.look x = .p (.v (.int k n))) (hd : dOk C o.dst = true)
    (hw : k'.wrap n = n) : LOp C o σ ⟨.p (.v (.int k' n)), []⟩ (fun _ => false) := by
  have := lop_conv ho hx hd; rwa [hw] at this

/-! ### Addresses -/

/-- a pointer to cells that stay as they are -/
def _root_.Go.Aw.PVal.at_ (row : List PVal) : PVal where
  holds X v := ∃ a, v = .pointer (some a) ∧ a.spot = none ∧ X.S a.block ∧ ∃ cs ty fr, X.w.heap[a.block]? = some (.cells cs ty fr) ∧ ∀ j p, row[j]? = some p → ∃ c, cs[a.off + j]? = some c ∧ PVal.holds p X c
  mono := by
    rintro x y v hle ⟨a, h1, h2, h3, cs, ty, fr, h4, h5⟩
    refine ⟨a, h1, h2, (hle _ h3).1, cs, ty, fr, (hle _ h3).2.trans h4, fun j p hp => ?_⟩
    obtain ⟨c, hc, hh⟩ := h5 j p hp
    exact ⟨c, hc, p.mono hle hh⟩
  one := by rintro x v ⟨a, rfl, _⟩; rfl

theorem add_addr' (a : Addr) (ha : a.spot = none) (n : Nat) : a.add n = ⟨a.block, a.off + n, none⟩ := by
  obtain ⟨b, o, s⟩ := a; simp at ha; subst ha; exact add_addr b o n

theorem lop_fieldAddr {T : TypeId} {x : Operand} {f : Nat} {fs : List (Nat × TypeId)} {sz by_ : Nat} [hT : TI C.P T (.struct fs) sz by_] {off ft : Nat} {kf : TK} {szf bf : Nat} [hf : TI C.P ft kf szf bf]
    {ob g of' : Nat} (ho : o.op = .fieldAddr T x f) (hfs : fs[f]? = some (off, ft)) (hz : szf ≠ 0) (hx : σ.look x = .o (.ptr ob g of')) (hd : dOk C o.dst = true) : LOp C o σ ⟨.o (.ptr ob g (of' + off)), []⟩ (fun _ => false) :=
  lop_val hd fun τ a w G hl hm h => by
    obtain ⟨b, c, h1, h2⟩ := look_of h ((hl x (by simp [ho, Op.operands])).trans hx)
    obtain ⟨d, hdd, hk⟩ := hT.undd
    cases d with
    | struct fields =>
      simp [TK.of] at hk
      subst hk
      have hfl : ∃ fd, fields[f]? = some fd ∧ fd.offset = off ∧ fd.type = ft := by
        rw [List.getElem?_map] at hfs
        cases hq : fields.toList[f]? with
        | none => rw [hq] at hfs; cases hfs
        | some fd => rw [hq] at hfs; simp at hfs; exact ⟨fd, by simpa using hq, hfs.1, hfs.2⟩
      obtain ⟨fd, hq, rfl, rfl⟩ := hfl
      refine ⟨.pointer (some ⟨b, of' + fd.offset, none⟩), ?_, b, c, h1, rfl⟩
      simp [execOp, ho, h2, Instr.fieldAt, run_underlying hdd, hq, Instr.sureAddr, fieldPlace, hf.run_sizeOf, hz, add_addr]
    | _ => simp [TK.of] at hk

theorem lop_fieldAddr_p {T : TypeId} {x : Operand} {f : Nat} {fs : List (Nat × TypeId)} {sz by_ : Nat} [hT : TI C.P T (.struct fs) sz by_] {off ft : Nat} {kf : TK} {szf bf : Nat} [hf : TI C.P ft kf szf bf]
    {row : List PVal} (ho : o.op = .fieldAddr T x f) (hfs : fs[f]? = some (off, ft)) (hz : szf ≠ 0) (hx : σ.look x = .p (.at_ row)) (hd : dOk C o.dst = true) : LOp C o σ ⟨.p (.at_ (row.drop off)), []⟩ (fun _ => false) :=
  lop_val hd fun τ a w G hl hm h => by
    obtain ⟨ad, h1, h2, h3, cs, ty, fr, h4, h5⟩ := look_of h ((hl x (by simp [ho, Op.operands])).trans hx)
    obtain ⟨d, hdd, hk⟩ := hT.undd
    cases d with
    | struct fields =>
      simp [TK.of] at hk
      subst hk
      have hfl : ∃ fd, fields[f]? = some fd ∧ fd.offset = off ∧ fd.type = ft := by
        rw [List.getElem?_map] at hfs
        cases hq : fields.toList[f]? with
        | none => rw [hq] at hfs; cases hfs
        | some fd => rw [hq] at hfs; simp at hfs; exact ⟨fd, by simpa using hq, hfs.1, hfs.2⟩
      obtain ⟨fd, hq, rfl, rfl⟩ := hfl
      refine ⟨.pointer (some ⟨ad.block, ad.off + fd.offset, none⟩), ?_, _, rfl, rfl, h3, cs, ty, fr, h4, fun j p hp => ?_⟩
      · simp [execOp, ho, h1, Instr.fieldAt, run_underlying hdd, hq, Instr.sureAddr, fieldPlace, hf.run_sizeOf, hz, add_addr' ad h2]
      · have := h5 (fd.offset + j) p (by simpa using hp)
        simpa [Nat.add_assoc] using this
    | _ => simp [TK.of] at hk

/-- a place of an own array -/
theorem lop_indexAddr_arr {T e : TypeId} {x ix : Operand} {n : Nat} {sz by_ : Nat} [hT : TI C.P T (.array n e) sz by_] {ke : TK} {sze be : Nat} [he : TI C.P e ke sze be] {ob g off : Nat} {k : IntKind} {i : Int}
    (ho : o.op = .indexAddr T x ix) (hx : σ.look x = .o (.ptr ob g off)) (hi : σ.look ix = .p (.v (.int k i))) (hb : 0 ≤ i ∧ i < n) (hd : dOk C o.dst = true) : LOp C o σ ⟨.o (.ptr ob g (off + i.toNat * sze)), []⟩ (fun _ => false) :=
  lop_val hd fun τ a w G hl hm h => by
    obtain ⟨b, c, h1, h2⟩ := look_of h ((hl x (by simp [ho, Op.operands])).trans hx)
    have e2 := val_of h ((hl ix (by simp [ho, Op.operands])).trans hi)
    obtain ⟨d, hdd, hk⟩ := hT.undd
    have : d = .array n e := by cases d <;> simp [TK.of] at hk; rw [hk.1, hk.2]
    subst this
    refine ⟨.pointer (some ⟨b, off + i.toNat * sze, none⟩), ?_, b, c, h1, rfl⟩
    simp [execOp, ho, h2, e2, Instr.indexAt, asIntOf, run_underlying hdd, Instr.sureAddr, hb, he.run_sizeOf, add_addr]

/-- an element of a slice that stays as it is -/
theorem lop_indexAddr_sl {T e : TypeId} {x ix : Operand} {sz by_ : Nat} [hT : TI C.P T (.slice e) sz by_] {ke : TK} {sze be : Nat} [he : TI C.P e ke sze be] {rows : List (List PVal)} {ex : Bool} {k : IntKind} {i : Int} {row : List PVal}
    (ho : o.op = .indexAddr T x ix) (hx : σ.look x = .p (.sl sze rows ex)) (hi : σ.look ix = .p (.v (.int k i))) (h0 : 0 ≤ i) (hb : rows[i.toNat]? = some row) (hd : dOk C o.dst = true) : LOp C o σ ⟨.p (.at_ row), []⟩ (fun _ => false) :=
  lop_val hd fun τ a w G hl hm h => by
    obtain ⟨base, cap, h1, h2, h3, h4, h5⟩ := look_of h ((hl x (by simp [ho, Op.operands])).trans hx)
    have e2 := val_of h ((hl ix (by simp [ho, Op.operands])).trans hi)
    have hlt : i.toNat < rows.length := (List.getElem?_eq_some_iff.1 hb).1
    cases base with
    | none => simp at h5; rw [h5.1] at hlt; simp at hlt
    | some ad =>
      rcases h5 with h5 | ⟨g1, g2, cs, ty, fr, g3, g4⟩
      · rw [h5] at hlt; simp at hlt
      obtain ⟨d, hdd, hk⟩ := hT.undd
      have : d = .slice e := by cases d <;> simp [TK.of] at hk; rw [hk]
      subst this
      refine ⟨.pointer (some ⟨ad.block, ad.off + i.toNat * sze, none⟩), ?_, _, rfl, rfl, g2, cs, ty, fr, g3, fun j p hp => (g4 _ _ hb).2 j p hp⟩
      have hb' : 0 ≤ i ∧ i < (rows.length : Int) := ⟨h0, by omega⟩
      simp [execOp, ho, h1, e2, Instr.indexAt, asIntOf, run_underlying hdd, hb', he.run_sizeOf, add_addr' ad g1]

/-! ### Reading -/
theorem lop_load_box {T : TypeId} {x : Operand} {k : TK} {sz by_ : Nat} [hT : TI C.P T k sz by_] {ob g off n : Nat} {ty : TypeId} {cs : List AC} (ho : o.op = .load T x) (hx : σ.look x = .o (.ptr ob g off)) (hm : σ.mem ob = (n, some (.box ty cs))) (hn : n = g + 1)
    (hk : k.agg = true) (hl : off + sz ≤ cs.length) (hd : dOk C o.dst = true) : LOp C o σ ⟨.a ((cs.drop off).take sz), []⟩ (fun y => y == ob) :=
  lop_val hd fun τ a w G hl' hm' h => by
    subst hn
    obtain ⟨b, c, h1, h2⟩ := look_of h ((hl' x (by simp [ho, Op.operands])).trans hx)
    obtain ⟨g', m', hg, hmm, b', arr, h4, h5, h6, h7⟩ := h.mem ob _ _ (by rw [hm' ob (by simp)]; exact hm)
    obtain rfl : g = g' := by omega
    rw [h1] at hmm; obtain rfl := Option.some.inj hmm
    simp only [Option.some.injEq] at h4; subst h4
    have hr := run_loadVar hT h6 (off := off) (by rw [← h7.1]; exact hl) (by simp [hk])
    simp only [hk, if_true] at hr
    exact ⟨_, by simp [execOp, ho, h2, Instr.loadAt, Instr.sureAddr, hr], _, rfl, (h7.drop off).take sz⟩
/-- a whole variable -/
theorem lop_load_all {T : TypeId} {x : Operand} {k : TK} {sz by_ : Nat} [hT : TI C.P T k sz by_] {ob g n : Nat} {ty : TypeId} {cs : List AC} (ho : o.op = .load T x) (hx : σ.look x = .o (.ptr ob g 0)) (hm : σ.mem ob = (n, some (.box ty cs))) (hn : n = g + 1)
    (hk : k.agg = true) (hl : cs.length = sz) (hd : dOk C o.dst = true) : LOp C o σ ⟨.a cs, []⟩ (fun y => y == ob) := by
  have := lop_load_box (o := o) ho hx hm hn hk (by omega) hd
  simpa [List.take_of_length_le (Nat.le_of_eq hl)] using this
theorem lop_load_one {T : TypeId} {x : Operand} {k : TK} {sz by_ : Nat} [hT : TI C.P T k sz by_] {ob g off n : Nat} {ty : TypeId} {cs : List AC} {c : AC} (ho : o.op = .load T x) (hx : σ.look x = .o (.ptr ob g off)) (hm : σ.mem ob = (n, some (.box ty cs))) (hn : n = g + 1)
    (hk : k.agg = false) (hs : sz = 1) (hc : cs[off]? = some c) (hd : dOk C o.dst = true) : LOp C o σ ⟨.o c, []⟩ (fun y => y == ob) :=
  lop_val hd fun τ a w G hl' hm' h => by
    subst hn
    obtain ⟨b, c', h1, h2⟩ := look_of h ((hl' x (by simp [ho, Op.operands])).trans hx)
    obtain ⟨g', m', hg, hmm, b', arr, h4, h5, h6, h7⟩ := h.mem ob _ _ (by rw [hm' ob (by simp)]; exact hm)
    obtain rfl : g = g' := by omega
    rw [h1] at hmm; obtain rfl := Option.some.inj hmm
    simp only [Option.some.injEq] at h4; subst h4
    obtain ⟨v, hv, hh⟩ := h7.get hc
    have hlt : off < arr.length := (List.getElem?_eq_some_iff.1 hv).1
    have hr := run_loadVar hT h6 (off := off) (by omega) (fun _ => hs)
    simp only [hk, Bool.false_eq_true, if_false] at hr
    have e : arr.getD off undef = v := by simp [List.getD_eq_getElem?_getD, hv]
    rw [e] at hr
    exact ⟨v, by simp [execOp, ho, h2, Instr.loadAt, Instr.sureAddr, hr], hh⟩

theorem stable_load {P : Program} {T : TypeId} {k : TK} {sz by_ : Nat} (hT : TI P T k sz by_) {w : World} {a : Addr} (ha : a.spot = none) {cs : Array Value} {ty : TypeId} {fr : Nat × Nat} (hg : w.heap[a.block]? = some (.cells cs ty fr))
    (hl : a.off + sz ≤ cs.size) (h1 : k.agg = false → sz = 1) :
    (loadVar T a).run P w = .ok (if k.agg then .agg ((cs.toList.drop a.off).take sz).toArray else cs.toList.getD a.off undef) w := by
  obtain ⟨b, off, s⟩ := a
  simp at ha; subst ha
  exact run_loadVar (arr := cs.toList) hT (by simpa using hg) (by simpa using hl) h1

theorem lop_load_at {T : TypeId} {x : Operand} {k : TK} {sz by_ : Nat} [hT : TI C.P T k sz by_] {row : List PVal} (ho : o.op = .load T x) (hx : σ.look x = .p (.at_ row)) (hk : k.agg = true) (hz : 0 < sz) (hl : sz ≤ row.length) (hd : dOk C o.dst = true) :
    LOp C o σ ⟨.a ((row.take sz).map .p), []⟩ (fun _ => false) :=
  lop_val hd fun τ a w G hl' hm' h => by
    obtain ⟨ad, h1, h2, h3, cs, ty, fr, h4, h5⟩ := look_of h ((hl' x (by simp [ho, Op.operands])).trans hx)
    have hsz : ad.off + sz ≤ cs.size := by
      have hr : row[sz - 1]? = some (row[sz - 1]'(by omega)) := List.getElem?_eq_getElem _
      obtain ⟨c, hc, _⟩ := h5 _ _ hr
      have := (Array.getElem?_eq_some_iff.1 hc).1
      omega
    have hr := stable_load hT h2 h4 hsz (by simp [hk])
    simp only [hk, if_true] at hr
    refine ⟨.agg ((cs.toList.drop ad.off).take sz).toArray, by simp only [execOp, ho, h1, Instr.loadAt, Instr.sureAddr, Sem.run_bind, Sem.run_pure, Result.andThen_ok, hr], (cs.toList.drop ad.off).take sz, rfl, ?_⟩
    refine ⟨by simp; omega, fun i c v hc hv => ?_⟩
    rw [List.getElem?_map] at hc
    rw [List.getElem?_take] at hc hv
    split at hc
    · rename_i hi
      cases hp : row[i]? with
      | none => simp [hp] at hc
      | some p =>
        simp [hp] at hc; subst hc
        obtain ⟨c', hc', hh⟩ := h5 i p hp
        simp [hi] at hv
        have : c' = v := by
          rw [hv] at hc'; exact (Option.some.inj hc').symm
        subst this; exact hh
    · simp at hc
theorem lop_load_at1 {T : TypeId} {x : Operand} {k : TK} {sz by_ : Nat} [hT : TI C.P T k sz by_] {row : List PVal} {p : PVal} (ho : o.op = .load T x) (hx : σ.look x = .p (.at_ row)) (hk : k.agg = false) (hs : sz = 1) (hp : row[0]? = some p) (hd : dOk C o.dst = true) :
    LOp C o σ ⟨.p p, []⟩ (fun _ => false) :=
  lop_val hd fun τ a w G hl' hm' h => by
    obtain ⟨ad, h1, h2, h3, cs, ty, fr, h4, h5⟩ := look_of h ((hl' x (by simp [ho, Op.operands])).trans hx)
    obtain ⟨c, hc, hh⟩ := h5 0 p hp
    have hlt := (Array.getElem?_eq_some_iff.1 hc).1
    have hr := stable_load hT h2 h4 (by rw [hs]; simp at hlt; omega) (fun _ => hs)
    simp only [hk, Bool.false_eq_true, if_false] at hr
    have e : cs.toList.getD ad.off undef = c := by
      simp only [Nat.add_zero] at hc
      simp [List.getD_eq_getElem?_getD, hc]
    rw [e] at hr
    exact ⟨c, by simp only [execOp, ho, h1, Instr.loadAt, Instr.sureAddr, Sem.run_bind, Sem.run_pure, Result.andThen_ok, hr], hh⟩

/-- what lies at a place of a value that is no variable -/
theorem run_part {P : Program} {T : TypeId} {k : TK} {sz by_ : Nat} (hT : TI P T k sz by_) (arr : List Value) (off : Nat) (w : World) (hl : off + sz ≤ arr.length) (h1 : k.agg = false → sz = 1) :
    (part T arr.toArray off).run P w = .ok (if k.agg then .agg ((arr.drop off).take sz).toArray else arr.getD off undef) w := by
  unfold part
  rw [Sem.run_bind, hT.run_isAgg w]
  simp only [Result.andThen_ok]
  cases hk : k.agg with
  | true =>
    simp only [if_true, Sem.run_bind, hT.run_sizeOf, Result.andThen_ok, Sem.run_pure, Bool.true_eq_false, if_false]
    congr 2
    rw [List.extract_toArray, List.extract_eq_take_drop, Nat.add_sub_cancel_left]
  | false =>
    have := h1 hk
    have hlt : off < arr.length := by omega
    simp [hlt]

theorem lop_index_arr {T e : TypeId} {x ix : Operand} {n : Nat} {sz by_ : Nat} [hT : TI C.P T (.array n e) sz by_] {ke : TK} {sze be : Nat} [he : TI C.P e ke sze be] {cs : List AC} {k : IntKind} {i : Int}
    (ho : o.op = .index T x ix) (hx : σ.look x = .a cs) (hi : σ.look ix = .p (.v (.int k i))) (hb : 0 ≤ i ∧ i < n) (hk : ke.agg = true) (hl : i.toNat * sze + sze ≤ cs.length) (hd : dOk C o.dst = true) :
    LOp C o σ ⟨.a ((cs.drop (i.toNat * sze)).take sze), []⟩ (fun _ => false) :=
  lop_val hd fun τ a w G hl' hm' h => by
    obtain ⟨arr, h1, h2⟩ := look_of h ((hl' x (by simp [ho, Op.operands])).trans hx)
    have e2 := val_of h ((hl' ix (by simp [ho, Op.operands])).trans hi)
    obtain ⟨d, hdd, hkk⟩ := hT.undd
    have : d = .array n e := by cases d <;> simp [TK.of] at hkk; rw [hkk.1, hkk.2]
    subst this
    have hr := run_part he arr (i.toNat * sze) w (by rw [← h2.1]; exact hl) (by simp [hk])
    simp only [hk, if_true] at hr
    exact ⟨_, by simp [execOp, ho, h1, e2, Instr.index, asIntOf, run_underlying hdd, hb, he.run_sizeOf, hr], _, rfl, (h2.drop _).take _⟩
theorem lop_index_arr1 {T e : TypeId} {x ix : Operand} {n : Nat} {sz by_ : Nat} [hT : TI C.P T (.array n e) sz by_] {ke : TK} {sze be : Nat} [he : TI C.P e ke sze be] {cs : List AC} {c : AC} {k : IntKind} {i : Int}
    (ho : o.op = .index T x ix) (hx : σ.look x = .a cs) (hi : σ.look ix = .p (.v (.int k i))) (hb : 0 ≤ i ∧ i < n) (hk : ke.agg = false) (hs : sze = 1) (hc : cs[i.toNat]? = some c) (hd : dOk C o.dst = true) :
    LOp C o σ ⟨.o c, []⟩ (fun _ => false) :=
  lop_val hd fun τ a w G hl' hm' h => by
    obtain ⟨arr, h1, h2⟩ := look_of h ((hl' x (by simp [ho, Op.operands])).trans hx)
    have e2 := val_of h ((hl' ix (by simp [ho, Op.operands])).trans hi)
    obtain ⟨d, hdd, hkk⟩ := hT.undd
    have : d = .array n e := by cases d <;> simp [TK.of] at hkk; rw [hkk.1, hkk.2]
    subst this
    obtain ⟨v, hv, hh⟩ := h2.get hc
    have hlt := (List.getElem?_eq_some_iff.1 hv).1
    have hr := run_part he arr (i.toNat * sze) w (by rw [hs]; omega) (fun _ => hs)
    simp only [hk, Bool.false_eq_true, if_false] at hr
    have e : arr.getD (i.toNat * sze) undef = v := by rw [hs]; simp [List.getD_eq_getElem?_getD, hv]
    rw [e] at hr
    exact ⟨v, by simp [execOp, ho, h1, e2, Instr.index, asIntOf, run_underlying hdd, hb, he.run_sizeOf, hr], hh⟩

/-! ### Lengths, and slices of slices -/
theorem lop_len_sl {T e : TypeId} {x : Operand} {sz by_ : Nat} [hT : TI C.P T (.slice e) sz by_] {es : Nat} {rows : List (List PVal)} {ex : Bool} (ho : o.op = .call ⟨.builtin .len, #[x], #[T]⟩) (hx : σ.look x = .p (.sl es rows ex)) (hd : dOk C o.dst = true) :
    LOp C o σ ⟨.p (.v (.int .i64 rows.length)), []⟩ (fun _ => false) :=
  lop_val hd fun τ a w G hl' hm' h => by
    obtain ⟨base, cap, h1, h2⟩ := look_of h ((hl' x (by simp [ho, Op.operands, Call.operands])).trans hx)
    obtain ⟨d, hdd, hkk⟩ := hT.undd
    have : d = .slice e := by cases d <;> simp [TK.of] at hkk; rw [hkk]
    subst this
    exact ⟨.int .i64 rows.length, by simp [execOp, ho, resolve, invoke, builtin, Builtin.len_, h1, run_underlying hdd, goInt], rfl, rfl⟩
theorem lop_len_nil {T e : TypeId} {x : Operand} {sz by_ : Nat} [hT : TI C.P T (.slice e) sz by_] {n c : Nat} {b : Option Addr} (ho : o.op = .call ⟨.builtin .len, #[x], #[T]⟩) (hx : σ.look x = .p (.v (.slice b n c))) (hd : dOk C o.dst = true) :
    LOp C o σ ⟨.p (.v (.int .i64 n)), []⟩ (fun _ => false) :=
  lop_val hd fun τ a w G hl' hm' h => by
    have h1 := val_of h ((hl' x (by simp [ho, Op.operands, Call.operands])).trans hx)
    obtain ⟨d, hdd, hkk⟩ := hT.undd
    have : d = .slice e := by cases d <;> simp [TK.of] at hkk; rw [hkk]
    subst this
    exact ⟨.int .i64 n, by simp [execOp, ho, resolve, invoke, builtin, Builtin.len_, h1, run_underlying hdd, goInt], rfl, rfl⟩
theorem lop_len_osl {T e : TypeId} {x : Operand} {sz by_ : Nat} [hT : TI C.P T (.slice e) sz by_] {ob g es lo len : Nat} (ho : o.op = .call ⟨.builtin .len, #[x], #[T]⟩) (hx : σ.look x = .o (.osl ob g es lo len)) (hd : dOk C o.dst = true) :
    LOp C o σ ⟨.p (.v (.int .i64 len)), []⟩ (fun _ => false) :=
  lop_val hd fun τ a w G hl' hm' h => by
    obtain ⟨m, c, h0, h00, h1⟩ := look_of h ((hl' x (by simp [ho, Op.operands, Call.operands])).trans hx)
    obtain ⟨d, hdd, hkk⟩ := hT.undd
    have : d = .slice e := by cases d <;> simp [TK.of] at hkk; rw [hkk]
    subst this
    exact ⟨.int .i64 len, by simp [execOp, ho, resolve, invoke, builtin, Builtin.len_, h1, run_underlying hdd, goInt], rfl, rfl⟩
theorem lop_len_asl {T e : TypeId} {x : Operand} {sz by_ : Nat} [hT : TI C.P T (.slice e) sz by_] {ob g off len cap : Nat} (ho : o.op = .call ⟨.builtin .len, #[x], #[T]⟩) (hx : σ.look x = .o (.asl ob g off len cap)) (hd : dOk C o.dst = true) :
    LOp C o σ ⟨.p (.v (.int .i64 len)), []⟩ (fun _ => false) :=
  lop_val hd fun τ a w G hl' hm' h => by
    obtain ⟨m, c, h0, h1⟩ := look_of h ((hl' x (by simp [ho, Op.operands, Call.operands])).trans hx)
    obtain ⟨d, hdd, hkk⟩ := hT.undd
    have : d = .slice e := by cases d <;> simp [TK.of] at hkk; rw [hkk]
    subst this
    exact ⟨.int .i64 len, by simp [execOp, ho, resolve, invoke, builtin, Builtin.len_, h1, run_underlying hdd, goInt], rfl, rfl⟩
theorem lop_len_str {T : TypeId} {x : Operand} {sz by_ : Nat} [hT : TI C.P T .string sz by_] {s : ByteArray} (ho : o.op = .call ⟨.builtin .len, #[x], #[T]⟩) (hx : σ.look x = .p (.v (.string s))) (hd : dOk C o.dst = true) :
    LOp C o σ ⟨.p (.v (.int .i64 s.size)), []⟩ (fun _ => false) :=
  lop_val hd fun τ a w G hl' hm' h => by
    have h1 := val_of h ((hl' x (by simp [ho, Op.operands, Call.operands])).trans hx)
    obtain ⟨d, hdd, hkk⟩ := hT.undd
    have : d = .string := by cases d <;> simp [TK.of] at hkk; rfl
    subst this
    exact ⟨.int .i64 s.size, by simp [execOp, ho, resolve, invoke, builtin, Builtin.len_, h1, run_underlying hdd, goInt], rfl, rfl⟩
end ops
end Go.Aw
