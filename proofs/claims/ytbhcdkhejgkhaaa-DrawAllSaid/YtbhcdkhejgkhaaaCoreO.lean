/- THE ABSTRACT WALK, part 15: own slices whose rows are mapped; the steps of a walk, each under one name. Nothing here speaks of a program. -/
import Derived.Test.YtbhcdkhejgkhaaaCoreM
namespace Go.Aw
open Go Go.RowKit
set_option linter.unusedVariables false
set_option linter.unusedSimpArgs false

variable {C : Ctx} {o : Oper} {σ : St}
section ops
theorem map_get {α : Type} [Inhabited α] {f : α → List PVal} {l : List α} {i : Nat} (h : i < l.length) : (l.map f)[i]? = some (f (l.getD i default)) := by
  simp [List.getD_eq_getElem?_getD, h]
/-- so many zero elements: a bool's -/
theorem lop_ms_b {T e : TypeId} {x y : Operand} {sz by_ : Nat} {ke : TK} {es be : Nat} {d n : Nat} {mo0 : Option MO} {kx ky : IntKind} {m c : Int}
    (ho : o.op = .makeSlice T x y) (hT : TI C.P T (.slice e) sz by_) (he : TI C.P e ke es be) (hz : TZ C.P e [.bool false]) (hdst : o.dst = some d) (hx : σ.look x = .p (.v (.int kx m))) (hy : σ.look y = .p (.v (.int ky c))) (hmc : m = c) (hes : es = 1) (h0 : 0 ≤ c) (h63 : c ≤ 9223372036854775807) (hby : (be : Int) * c ≤ 281474976710656) (hm : σ.mem d = (n, mo0)) (hd : dOk C o.dst = true) :
    LOp C o σ ⟨.o (.osl d n es 0 c.toNat), [(d, (n + 1, some (.buf e es ((List.replicate c.toNat false).map fun b => [PVal.b b]))))]⟩ (fun q => q == d) := by
  have := lop_makeSlice (o := o) ho hdst hx hy hmc hes h0 h63 hby rfl hm hd
  rwa [List.map_replicate]
/-- an integer's -/
theorem lop_ms_i {T e : TypeId} {x y : Operand} {sz by_ : Nat} {ke : TK} {es be : Nat} {k : IntKind} {d n : Nat} {mo0 : Option MO} {kx ky : IntKind} {m c : Int}
    (ho : o.op = .makeSlice T x y) (hT : TI C.P T (.slice e) sz by_) (he : TI C.P e ke es be) (hz : TZ C.P e [.int k 0]) (hdst : o.dst = some d) (hx : σ.look x = .p (.v (.int kx m))) (hy : σ.look y = .p (.v (.int ky c))) (hmc : m = c) (hes : es = 1) (h0 : 0 ≤ c) (h63 : c ≤ 9223372036854775807) (hby : (be : Int) * c ≤ 281474976710656) (hm : σ.mem d = (n, mo0)) (hd : dOk C o.dst = true) :
    LOp C o σ ⟨.o (.osl d n es 0 c.toNat), [(d, (n + 1, some (.buf e es ((List.replicate c.toNat (0 : Int)).map fun b => [PVal.k k b]))))]⟩ (fun q => q == d) := by
  have := lop_makeSlice (o := o) ho hdst hx hy hmc hes h0 h63 hby rfl hm hd
  rwa [List.map_replicate]
/-- one cell of an own slice's memory -/
theorem lop_ld_b {α : Type} {f : α → List PVal} {l : List α} {T : TypeId} {x : Operand} {k : TK} {sz by_ : Nat} {ob g n ty i es : Nat} {p : PVal} (ho : o.op = .load T x) (hT : TI C.P T k sz by_) (hx : σ.look x = .o (.ptr ob g (i * 1))) (hm : σ.mem ob = (n, some (.buf ty es (l.map f)))) (hI : Inhabited α) (hes : es = 1) (hn : n = g + 1)
    (hk : k.agg = false) (hs : sz = 1) (hi : i < l.length) (hp : f (l.getD i default) = [p]) (hd : dOk C o.dst = true) : LOp C o σ ⟨.p p, []⟩ (fun y => y == ob) := by
  subst hes; exact lop_load_buf (o := o) ho hx hm hn hk hs (by rw [map_get hi, hp]) hd
/-- into one cell of an own slice's memory -/
theorem lop_st_b {α : Type} {f : α → List PVal} {l : List α} {v : α} {T : TypeId} {x y : Operand} {k : TK} {sz by_ : Nat} {ob g n ty i es : Nat} {p : PVal} (ho : o.op = .store T x y) (hT : TI C.P T k sz by_) (hdst : o.dst = none) (hx : σ.look x = .o (.ptr ob g (i * 1))) (hy : σ.look y = .p p) (hs : sz = 1)
    (hm : σ.mem ob = (n, some (.buf ty es (l.map f)))) (he : es = 1) (hn : n = g + 1) (hp : [p] = f v) (hi : i < l.length) : LOp C o σ ⟨.un, [(ob, (n, some (.buf ty es ((l.set i v).map f))))]⟩ (fun z => z == ob) := by
  have := lop_store_buf (C := C) (o := o) ho hdst hx hy hs hm he hn (by simpa using hi)
  rwa [hp, ← List.map_set] at this
/-- a place of an own slice -/
theorem lop_ix_b {α : Type} {f : α → List PVal} {l : List α} {T e : TypeId} {x ix : Operand} {sz by_ : Nat} {ke : TK} {sze be : Nat} {ob g n len ty : Nat} {k : IntKind} {i : Int}
    (ho : o.op = .indexAddr T x ix) (hT : TI C.P T (.slice e) sz by_) (he : TI C.P e ke sze be) (hx : σ.look x = .o (.osl ob g sze 0 len)) (hm : σ.mem ob = (n, some (.buf ty sze (l.map f)))) (hn : n = g + 1) (hi : σ.look ix = .p (.v (.int k i))) (hl : len ≤ l.length) (h0 : 0 ≤ i) (hb : i < len) (hd : dOk C o.dst = true) :
    LOp C o σ ⟨.o (.ptr ob g (i.toNat * sze)), []⟩ (fun y => y == ob) := lop_indexAddr_osl ho hx hm hn (by simpa using hl) hi h0 hb hd
end ops

/-- what is known says this, too -/
def Ent1 (a b : AV) : Prop := ∀ μ X v, a.holds μ X v → b.holds μ X v
theorem Ent1.refl {a : AV} : Ent1 a a := fun _ _ _ h => h
abbrev nilA : AV := .p (.v (.slice none 0 0))
theorem Ent1.nil {es : Nat} {ex : Bool} : Ent1 nilA (.p (.sl es [] ex)) := by
  rintro μ X v ⟨rfl, _⟩
  exact ⟨none, 0, rfl, Nat.le_refl _, by simp [maxLen], fun _ => rfl, rfl, rfl⟩
theorem Ent1.ex {es : Nat} {rows : List (List PVal)} {ex : Bool} : Ent1 (.p (.sl es rows ex)) (.p (.sl es rows false)) := by
  rintro μ X v ⟨base, cap, h1, h2, h3, h4, h5⟩
  exact ⟨base, cap, h1, h2, h3, by simp, h5⟩
theorem ent_holds {μ : Mu} {X : Wd} {as bs : List AV} {vs : List Value} (hE : All2 Ent1 as bs) (h : All2 (AV.holds μ X) as vs) : All2 (AV.holds μ X) bs vs := by
  refine ⟨hE.1.symm.trans h.1, fun i b v hb hv => ?_⟩
  have hi : i < as.length := by rw [hE.1]; exact (List.getElem?_eq_some_iff.1 hb).1
  have ha : as[i]? = some as[i] := by simp [hi]
  exact hE.2 i _ b ha hb _ _ _ (h.2 i _ v ha hv)
theorem PCall.ent {P : Program} {f : FuncId} {as bs : List AV} {r : AV} (h : PCall P f bs r) (hE : All2 Ent1 as bs) : PCall P f as r := fun w S vs hS ha => h w S vs hS (ent_holds hE ha)
theorem OCAt.ent {P : Program} {f : FuncId} {as bs : List AV} {lent upds : List (Nat × (Nat × Option MO))} {fresh : List (Nat × Nat)} {r : AV} (h : OCAt P f bs lent fresh r upds) (hE : All2 Ent1 as bs) : OCAt P f as lent fresh r upds :=
  fun w G mem vs h1 h2 h3 ha => h w G mem vs h1 h2 h3 (ent_holds hE ha)

theorem memb_mem : ∀ {W : List Nat} {t : Nat}, memb W t = true → t ∈ W
  | [], t, h => by simp [memb] at h
  | k :: W, t, h => by
    simp only [memb, Bool.or_eq_true] at h
    rcases h with h | h
    · simp [Nat.eq_of_beq_eq_true h]
    · simp [memb_mem h]
theorem memb_sub {W W' : List Nat} (h : W'.all (memb W) = true) : ∀ t, memb W' t = true → memb W t = true := fun t ht => List.all_eq_true.1 h t (memb_mem ht)
/-- any world -/
noncomputable def whole' : Wd := ⟨default, fun _ => False⟩
/-! ### Ghost steps at a round's end -/
theorem Says.refl {C : Ctx} {σ : St} : Says C σ σ := fun _ _ h => h
theorem Says.trans {C : Ctx} {σ τ υ : St} (h : Says C σ τ) (k : Says C τ υ) : Says C σ υ := fun a w hr => k a w (h a w hr)
theorem aw_says {C : Ctx} {σ τ : St} {c : Code} {Q : Exit → St → Prop} (h : Says C σ τ) (hk : AW C c Q τ) : AW C c Q σ := fun a w hr => hk a w (h a w hr)
/-- a loop, as 'aws_loopF'; at a round's end less may be said -/
theorem aws_loopS {ι : Type} {C : Ctx} {Q : Exit → St → Prop} {σ : St} {c : Code} {k : List Code} {id : Nat} (W M : List Nat) (e : ι → List (Nat × AV)) (m : ι → List (Nat × (Nat × Option MO))) (P : ι → Prop) (μ : ι → Nat) (i₀ : ι)
    (h₀ : P i₀) (he : Knows σ.env (e i₀)) (hm : Knows σ.mem (m i₀))
    (round : ∀ i β γ, P i → AWs C [c] (fun x s' => match x with | .normal => ∃ j τ, μ j < μ i ∧ P j ∧ Says C s' τ ∧ Fr' σ W (e j) M (m j) τ | x => blk id (AWs C k Q) Q x s') (σ.fr W β (e i) M γ (m i))) : AWs C (.block id (.loop c) :: k) Q σ :=
  aws_loop (fun i s => ∃ τ, Says C s τ ∧ P i ∧ Fr' σ W (e i) M (m i) τ) μ i₀ ⟨σ, .refl, h₀, .mk .refl he hm⟩ fun i s ⟨τ, hs, hP, β, γ, ht⟩ => by
    subst ht
    refine aws_mono (Q := fun x s' => match x with | .normal => ∃ j τ, μ j < μ i ∧ P j ∧ Says C s' τ ∧ Fr' σ W (e j) M (m j) τ | x => blk id (AWs C k Q) Q x s') (fun x s' hq => ?_) (aws_says hs (round i β γ hP))
    cases x with
    | normal => obtain ⟨j, τ, h1, h2, h3, h4⟩ := hq; exact ⟨j, h1, τ, h3, h2, h4⟩
    | _ => exact hq
/-- a ghost step ahead of a guarded operation -/
theorem rn_says_g {C : Ctx} {ops : Array Oper} {o : Oper} {rest : List Oper} {K : St → Prop} {σ τ : St} {j t : Nat} {want b : Bool} (h : Says C σ τ) (hg : o.guard = some (j, want)) (ht : (ops[j]?).bind (·.dst) = some t) (hv : σ.env t = .p (.v (.bool b))) (hv' : τ.env t = .p (.v (.bool b))) (hd : dOk C o.dst = true)
    (hb : b = want) (hk : RunN C ops (o :: rest) K τ) : RunN C ops (o :: rest) K σ := by
  have hG : Guard ops σ o true := gd_t hg ht hv hb
  rcases hk with ⟨_, σ', h1, h2⟩ | ⟨h0, _⟩
  · exact .inl ⟨hG, σ', fun a w hr => h1 a w (h a w hr), h2⟩
  · exfalso
    unfold Guard at h0
    rw [hg] at h0
    obtain ⟨t', b', k1, k2, k3⟩ := h0
    rw [ht] at k1
    obtain rfl := Option.some.inj k1
    rw [hv'] at k2
    have : b = b' := by
      simp only [AV.s.injEq, SV.one.injEq, AC.p.injEq] at k2
      have hx := congrArg (fun p : PVal => p.holds (whole' ) (.bool b)) k2
      simpa [PVal.v, Value.oneCell'] using hx
    subst this
    simp [hb] at k3
/-- of an object nothing more is said -/
theorem says_forget {C : Ctx} {σ : St} {o n : Nat} {mo : Option MO} (hm : σ.mem o = (n, mo)) : Says C σ (σ.put o (n, none)) := by
  rintro a w ⟨G, h⟩
  exact ⟨_, h.freeze (o := o) (mo' := none) hm (fun x hx => by cases hx)⟩
/-- a slice, to a nil slice: it grows from now on -/
theorem lop_ap_n {α : Type} {f : α → List PVal} {m : List α} {T e : TypeId} {x y : Operand} {sz by_ : Nat} {ke : TK} {es be : Nat} {z : List Value} {ey : Bool} {d n : Nat} {mo0 : Option MO} (ho : o.op = .call ⟨.builtin .append, #[x, y], #[T, T]⟩) (hT : TI C.P T (.slice e) sz by_) (he : TI C.P e ke es be) (hz : TZ C.P e z) (hdst : o.dst = some d) (hx : σ.look x = .p (.v (.slice none 0 0)))
    (hy : σ.look y = .p (.sl es (m.map f) ey)) (hm : σ.mem d = (n, mo0)) (hes : (0 : Nat) < es) (hzl : z.length = es) (h63 : m.length ≤ maxLen) (hby : m.length * be ≤ 140737488355328) (hd : dOk C o.dst = true) :
    LOp C o σ ⟨.o (.osl d n es 0 m.length), [(d, (n + 1, some (.buf e es (m.map f))))]⟩ (fun q => q == d) := by
  have := lop_append_nil (o := o) ho hdst hx (src_sl hy) hm hes hzl (by simpa using h63) (by simpa using hby) hd
  simpa using this

/-- what a test says, plainly -/
theorem hqs : (∀ (p : Prop) [Decidable p], (decide p = true) = p) ∧ (∀ (p : Prop) [Decidable p], (decide p = false) = ¬ p) ∧ (∀ b : Bool, ((!b) = true) = (b = false)) ∧ (∀ b : Bool, ((!b) = false) = (b = true)) ∧
    (∀ a b : Bool, ((a && b) = true) = (a = true ∧ b = true)) ∧ (∀ a b : Bool, ((a || b) = true) = (a = true ∨ b = true)) ∧ (∀ a b : Bool, ((a && b) = false) = (a = false ∨ b = false)) ∧ (∀ a b : Bool, ((a || b) = false) = (a = false ∧ b = false)) ∧
    (∀ {α : Type} (a b : α), (a ≠ b) = ¬ a = b) ∧ (∀ (p : Prop) [Decidable p], (¬ ¬ p) = p) ∧ ((false = true) = False) ∧ ((true = false) = False) ∧ ((¬ True) = False) ∧ ((¬ False) = True) := by
  refine ⟨fun p _ => by simp, fun p _ => by simp, fun b => by simp, fun b => by simp, fun a b => by simp, fun a b => by simp, fun a b => by cases a <;> simp, fun a b => by simp, fun a b => rfl, fun p _ => by simp [Decidable.not_not], by simp, by simp, by simp, by simp⟩

theorem ob_none {Q : Nat × (Nat × Option MO) → Prop} : ∀ p ∈ ([] : List (Nat × (Nat × Option MO))), Q p := by simp
theorem ob_one {W : List (Nat × Nat)} {i x : Nat} {m : Nat × Option MO} (h : (i, x) ∈ W) : ∀ p ∈ [(x, m)], (i, p.1) ∈ W := fun p hp => by simp at hp; subst hp; exact h
/-! ### Which operation it is -/
section kinds
variable {C : Ctx} {o : Oper} {σ : St} {e : Eff} {ro : Nat → Bool}
theorem gMove {x : Operand} (ho : o.op = .move x) (h : LOp C o σ e ro) : LOp C o σ e ro := h
theorem gAssign {x : Operand} (ho : o.op = .assign x) (h : LOp C o σ e ro) : LOp C o σ e ro := h
theorem gLoad {T : TypeId} {x : Operand} (ho : o.op = .load T x) (h : LOp C o σ e ro) : LOp C o σ e ro := h
theorem gPick {x y z : Operand} (ho : o.op = .pick x y z) (h : LOp C o σ e ro) : LOp C o σ e ro := h
theorem gCallF {f : FuncId} {as : Array Operand} {ts : Array TypeId} (ho : o.op = .call ⟨.value (.func f), as, ts⟩) (h : LOp C o σ e ro) : LOp C o σ e ro := h
theorem gCallB {b : Builtin} {as : Array Operand} {ts : Array TypeId} (ho : o.op = .call ⟨.builtin b, as, ts⟩) (h : LOp C o σ e ro) : LOp C o σ e ro := h
theorem gIndex {T : TypeId} {x y : Operand} (ho : o.op = .indexAddr T x y) (h : LOp C o σ e ro) : LOp C o σ e ro := h
theorem gField {T : TypeId} {x : Operand} {n : Nat} (ho : o.op = .fieldAddr T x n) (h : LOp C o σ e ro) : LOp C o σ e ro := h
theorem gBin {b : BinOp} {T T' : TypeId} {x y : Operand} (ho : o.op = .binOp b T x y T') (h : LOp C o σ e ro) : LOp C o σ e ro := h
theorem gExtract {x : Operand} {n : Nat} (ho : o.op = .extract x n) (h : LOp C o σ e ro) : LOp C o σ e ro := h
theorem gSlice {T : TypeId} {x : Operand} {l h m : Option Operand} (ho : o.op = .slice T x l h m) (h : LOp C o σ e ro) : LOp C o σ e ro := h
end kinds
/-! ### One step under one name -/
theorem lopA {C : Ctx} {o : Oper} {σ : St} {e : Eff} {ro : Nat → Bool} (h : LOp C o σ e ro := by
    first
          | (apply gMove; (focus rfl); first
              | exact lop_move_o rfl rfl rfl
              | exact lop_move_a rfl rfl rfl
              | exact lop_move_t rfl rfl rfl
              | exact lop_move_u rfl rfl)
          | (apply gAssign; (focus rfl); first
              | exact lop_assign_o rfl rfl rfl
              | exact lop_assign_a rfl rfl rfl)
          | (apply gLoad; (focus rfl); first
              | exact lop_load_one rfl rfl rfl rfl rfl rfl rfl rfl
              | exact lop_load_all rfl rfl rfl rfl rfl rfl rfl
              | exact lop_load_all rfl rfl rfl rfl rfl (by simp [*]) rfl
              | (apply lop_ld_at1; (focus rfl); (focus exact inferInstance); (focus rfl); (focus rfl); (focus rfl); (focus rfl); (focus rfl))
              | (apply lop_ld_b; (focus rfl); (focus exact inferInstance); (focus rfl); (focus rfl); (focus rfl); (focus rfl); (focus rfl); (focus rfl); (focus omega); (focus rfl); (focus rfl); (focus exact inferInstance)))
          | (apply gPick; (focus rfl); first
              | exact lop_pick_t' rfl rfl rfl rfl rfl
              | exact lop_pick_f' rfl rfl rfl rfl rfl
              | exact lop_pick_t' rfl rfl (by assumption) rfl rfl
              | exact lop_pick_f' rfl rfl (by assumption) rfl rfl)
          | (apply gCallF; (focus rfl); first
              | (apply lop_call1; (focus rfl); (focus exact inferInstance); (focus first | exact lk_m1 rfl | exact lk_m2 rfl | exact lk_m3 rfl | exact lk_o rfl | exact lk_a2 rfl | exact lk_a3 rfl | exact lk_a4 rfl | exact lk_a1 rfl | exact lk_a5 rfl | exact lk_a6 rfl | exact lk_a7 rfl | exact lk_a8 rfl | exact lk_a rfl); (focus exact inferInstance); (focus exact inferInstance); (focus first | exact True.intro | assumption | omega | (repeat' (first | assumption | refine And.intro ?_ ?_ | omega | decide))); (focus rfl))
              | (apply lop_call2; (focus rfl); (focus exact inferInstance); (focus first | exact lk_m1 rfl | exact lk_m2 rfl | exact lk_m3 rfl | exact lk_o rfl | exact lk_a2 rfl | exact lk_a3 rfl | exact lk_a4 rfl | exact lk_a1 rfl | exact lk_a5 rfl | exact lk_a6 rfl | exact lk_a7 rfl | exact lk_a8 rfl | exact lk_a rfl); (focus first | exact lk_m1 rfl | exact lk_m2 rfl | exact lk_m3 rfl | exact lk_o rfl | exact lk_a2 rfl | exact lk_a3 rfl | exact lk_a4 rfl | exact lk_a1 rfl | exact lk_a5 rfl | exact lk_a6 rfl | exact lk_a7 rfl | exact lk_a8 rfl | exact lk_a rfl); (focus exact inferInstance); (focus exact inferInstance); (focus first | exact True.intro | assumption | omega | (repeat' (first | assumption | refine And.intro ?_ ?_ | omega | decide))); (focus rfl))
              | (apply lop_call3; (focus rfl); (focus exact inferInstance); (focus first | exact lk_m1 rfl | exact lk_m2 rfl | exact lk_m3 rfl | exact lk_o rfl | exact lk_a2 rfl | exact lk_a3 rfl | exact lk_a4 rfl | exact lk_a1 rfl | exact lk_a5 rfl | exact lk_a6 rfl | exact lk_a7 rfl | exact lk_a8 rfl | exact lk_a rfl); (focus first | exact lk_m1 rfl | exact lk_m2 rfl | exact lk_m3 rfl | exact lk_o rfl | exact lk_a2 rfl | exact lk_a3 rfl | exact lk_a4 rfl | exact lk_a1 rfl | exact lk_a5 rfl | exact lk_a6 rfl | exact lk_a7 rfl | exact lk_a8 rfl | exact lk_a rfl); (focus first | exact lk_m1 rfl | exact lk_m2 rfl | exact lk_m3 rfl | exact lk_o rfl | exact lk_a2 rfl | exact lk_a3 rfl | exact lk_a4 rfl | exact lk_a1 rfl | exact lk_a5 rfl | exact lk_a6 rfl | exact lk_a7 rfl | exact lk_a8 rfl | exact lk_a rfl); (focus exact inferInstance); (focus exact inferInstance); (focus first | exact True.intro | assumption | omega | (repeat' (first | assumption | refine And.intro ?_ ?_ | omega | decide))); (focus rfl))
              | (apply lop_call0; (focus rfl); (focus exact inferInstance); (focus exact inferInstance); (focus exact inferInstance); (focus first | exact True.intro | assumption | omega | (repeat' (first | assumption | refine And.intro ?_ ?_ | omega | decide))); (focus rfl))
              | (apply lop_call4; (focus rfl); (focus exact inferInstance); (focus first | exact lk_m1 rfl | exact lk_m2 rfl | exact lk_m3 rfl | exact lk_o rfl | exact lk_a2 rfl | exact lk_a3 rfl | exact lk_a4 rfl | exact lk_a1 rfl | exact lk_a5 rfl | exact lk_a6 rfl | exact lk_a7 rfl | exact lk_a8 rfl | exact lk_a rfl); (focus first | exact lk_m1 rfl | exact lk_m2 rfl | exact lk_m3 rfl | exact lk_o rfl | exact lk_a2 rfl | exact lk_a3 rfl | exact lk_a4 rfl | exact lk_a1 rfl | exact lk_a5 rfl | exact lk_a6 rfl | exact lk_a7 rfl | exact lk_a8 rfl | exact lk_a rfl); (focus first | exact lk_m1 rfl | exact lk_m2 rfl | exact lk_m3 rfl | exact lk_o rfl | exact lk_a2 rfl | exact lk_a3 rfl | exact lk_a4 rfl | exact lk_a1 rfl | exact lk_a5 rfl | exact lk_a6 rfl | exact lk_a7 rfl | exact lk_a8 rfl | exact lk_a rfl); (focus first | exact lk_m1 rfl | exact lk_m2 rfl | exact lk_m3 rfl | exact lk_o rfl | exact lk_a2 rfl | exact lk_a3 rfl | exact lk_a4 rfl | exact lk_a1 rfl | exact lk_a5 rfl | exact lk_a6 rfl | exact lk_a7 rfl | exact lk_a8 rfl | exact lk_a rfl); (focus exact inferInstance); (focus exact inferInstance); (focus first | exact True.intro | assumption | omega | (repeat' (first | assumption | refine And.intro ?_ ?_ | omega | decide))); (focus rfl))
              | (apply lop_oc1; (focus rfl); (focus exact inferInstance); (focus first | exact lk_m1 rfl | exact lk_m2 rfl | exact lk_m3 rfl | exact lk_o rfl | exact lk_a2 rfl | exact lk_a3 rfl | exact lk_a4 rfl | exact lk_a1 rfl | exact lk_a5 rfl | exact lk_a6 rfl | exact lk_a7 rfl | exact lk_a8 rfl | exact lk_a rfl); (focus exact inferInstance); (focus rfl); (focus exact inferInstance); (focus first | exact True.intro | assumption | omega | (repeat' (first | assumption | refine And.intro ?_ ?_ | omega | decide))); (focus rfl); (focus rfl))
              | (apply lop_oc2; (focus rfl); (focus exact inferInstance); (focus first | exact lk_m1 rfl | exact lk_m2 rfl | exact lk_m3 rfl | exact lk_o rfl | exact lk_a2 rfl | exact lk_a3 rfl | exact lk_a4 rfl | exact lk_a1 rfl | exact lk_a5 rfl | exact lk_a6 rfl | exact lk_a7 rfl | exact lk_a8 rfl | exact lk_a rfl); (focus first | exact lk_m1 rfl | exact lk_m2 rfl | exact lk_m3 rfl | exact lk_o rfl | exact lk_a2 rfl | exact lk_a3 rfl | exact lk_a4 rfl | exact lk_a1 rfl | exact lk_a5 rfl | exact lk_a6 rfl | exact lk_a7 rfl | exact lk_a8 rfl | exact lk_a rfl); (focus exact inferInstance); (focus rfl); (focus exact inferInstance); (focus first | exact True.intro | assumption | omega | (repeat' (first | assumption | refine And.intro ?_ ?_ | omega | decide))); (focus rfl); (focus rfl))
              | (apply lop_oc3; (focus rfl); (focus exact inferInstance); (focus first | exact lk_m1 rfl | exact lk_m2 rfl | exact lk_m3 rfl | exact lk_o rfl | exact lk_a2 rfl | exact lk_a3 rfl | exact lk_a4 rfl | exact lk_a1 rfl | exact lk_a5 rfl | exact lk_a6 rfl | exact lk_a7 rfl | exact lk_a8 rfl | exact lk_a rfl); (focus first | exact lk_m1 rfl | exact lk_m2 rfl | exact lk_m3 rfl | exact lk_o rfl | exact lk_a2 rfl | exact lk_a3 rfl | exact lk_a4 rfl | exact lk_a1 rfl | exact lk_a5 rfl | exact lk_a6 rfl | exact lk_a7 rfl | exact lk_a8 rfl | exact lk_a rfl); (focus first | exact lk_m1 rfl | exact lk_m2 rfl | exact lk_m3 rfl | exact lk_o rfl | exact lk_a2 rfl | exact lk_a3 rfl | exact lk_a4 rfl | exact lk_a1 rfl | exact lk_a5 rfl | exact lk_a6 rfl | exact lk_a7 rfl | exact lk_a8 rfl | exact lk_a rfl); (focus exact inferInstance); (focus rfl); (focus exact inferInstance); (focus first | exact True.intro | assumption | omega | (repeat' (first | assumption | refine And.intro ?_ ?_ | omega | decide))); (focus rfl); (focus rfl))
              | (apply lop_oc4; (focus rfl); (focus exact inferInstance); (focus first | exact lk_m1 rfl | exact lk_m2 rfl | exact lk_m3 rfl | exact lk_o rfl | exact lk_a2 rfl | exact lk_a3 rfl | exact lk_a4 rfl | exact lk_a1 rfl | exact lk_a5 rfl | exact lk_a6 rfl | exact lk_a7 rfl | exact lk_a8 rfl | exact lk_a rfl); (focus first | exact lk_m1 rfl | exact lk_m2 rfl | exact lk_m3 rfl | exact lk_o rfl | exact lk_a2 rfl | exact lk_a3 rfl | exact lk_a4 rfl | exact lk_a1 rfl | exact lk_a5 rfl | exact lk_a6 rfl | exact lk_a7 rfl | exact lk_a8 rfl | exact lk_a rfl); (focus first | exact lk_m1 rfl | exact lk_m2 rfl | exact lk_m3 rfl | exact lk_o rfl | exact lk_a2 rfl | exact lk_a3 rfl | exact lk_a4 rfl | exact lk_a1 rfl | exact lk_a5 rfl | exact lk_a6 rfl | exact lk_a7 rfl | exact lk_a8 rfl | exact lk_a rfl); (focus first | exact lk_m1 rfl | exact lk_m2 rfl | exact lk_m3 rfl | exact lk_o rfl | exact lk_a2 rfl | exact lk_a3 rfl | exact lk_a4 rfl | exact lk_a1 rfl | exact lk_a5 rfl | exact lk_a6 rfl | exact lk_a7 rfl | exact lk_a8 rfl | exact lk_a rfl); (focus exact inferInstance); (focus rfl); (focus exact inferInstance); (focus first | exact True.intro | assumption | omega | (repeat' (first | assumption | refine And.intro ?_ ?_ | omega | decide))); (focus rfl); (focus rfl))
              | (apply lop_of0; (focus rfl); (focus exact inferInstance); (focus rfl); (focus rfl); (focus exact inferInstance); (focus first | exact True.intro | assumption | omega | (repeat' (first | assumption | refine And.intro ?_ ?_ | omega | decide))); (focus rfl); (focus rfl))
              | (apply lop_of1; (focus rfl); (focus exact inferInstance); (focus rfl); (focus first | exact lk_m1 rfl | exact lk_m2 rfl | exact lk_m3 rfl | exact lk_o rfl | exact lk_a2 rfl | exact lk_a3 rfl | exact lk_a4 rfl | exact lk_a1 rfl | exact lk_a5 rfl | exact lk_a6 rfl | exact lk_a7 rfl | exact lk_a8 rfl | exact lk_a rfl); (focus rfl); (focus exact inferInstance); (focus first | exact True.intro | assumption | omega | (repeat' (first | assumption | refine And.intro ?_ ?_ | omega | decide))); (focus rfl); (focus rfl))
              | (apply lop_of2; (focus rfl); (focus exact inferInstance); (focus rfl); (focus first | exact lk_m1 rfl | exact lk_m2 rfl | exact lk_m3 rfl | exact lk_o rfl | exact lk_a2 rfl | exact lk_a3 rfl | exact lk_a4 rfl | exact lk_a1 rfl | exact lk_a5 rfl | exact lk_a6 rfl | exact lk_a7 rfl | exact lk_a8 rfl | exact lk_a rfl); (focus first | exact lk_m1 rfl | exact lk_m2 rfl | exact lk_m3 rfl | exact lk_o rfl | exact lk_a2 rfl | exact lk_a3 rfl | exact lk_a4 rfl | exact lk_a1 rfl | exact lk_a5 rfl | exact lk_a6 rfl | exact lk_a7 rfl | exact lk_a8 rfl | exact lk_a rfl); (focus rfl); (focus exact inferInstance); (focus first | exact True.intro | assumption | omega | (repeat' (first | assumption | refine And.intro ?_ ?_ | omega | decide))); (focus rfl); (focus rfl))
              | (apply lop_of3; (focus rfl); (focus exact inferInstance); (focus rfl); (focus first | exact lk_m1 rfl | exact lk_m2 rfl | exact lk_m3 rfl | exact lk_o rfl | exact lk_a2 rfl | exact lk_a3 rfl | exact lk_a4 rfl | exact lk_a1 rfl | exact lk_a5 rfl | exact lk_a6 rfl | exact lk_a7 rfl | exact lk_a8 rfl | exact lk_a rfl); (focus first | exact lk_m1 rfl | exact lk_m2 rfl | exact lk_m3 rfl | exact lk_o rfl | exact lk_a2 rfl | exact lk_a3 rfl | exact lk_a4 rfl | exact lk_a1 rfl | exact lk_a5 rfl | exact lk_a6 rfl | exact lk_a7 rfl | exact lk_a8 rfl | exact lk_a rfl); (focus first | exact lk_m1 rfl | exact lk_m2 rfl | exact lk_m3 rfl | exact lk_o rfl | exact lk_a2 rfl | exact lk_a3 rfl | exact lk_a4 rfl | exact lk_a1 rfl | exact lk_a5 rfl | exact lk_a6 rfl | exact lk_a7 rfl | exact lk_a8 rfl | exact lk_a rfl); (focus rfl); (focus exact inferInstance); (focus first | exact True.intro | assumption | omega | (repeat' (first | assumption | refine And.intro ?_ ?_ | omega | decide))); (focus rfl); (focus rfl)))
          | (apply gCallB; (focus rfl); first
              | exact lop_len_map rfl rfl rfl
              | exact lop_len_sl rfl rfl rfl
              | exact lop_len_nil rfl rfl rfl
              | exact lop_len_osl rfl rfl rfl
              | exact lop_len_str rfl rfl rfl
              | exact lop_min rfl rfl rfl rfl
              | exact lop_max rfl rfl rfl rfl
              | (apply lop_ap_o1; (focus rfl); (focus exact inferInstance); (focus exact inferInstance); (focus exact inferInstance); (focus rfl); (focus rfl); (focus rfl); (focus rfl); (focus rfl); (focus rfl); (focus rfl); (focus first | (simp only [maxLen, List.length_append, List.length_cons, List.length_nil, List.length_take, List.length_drop, List.length_map]; omega) | omega); (focus first | (simp only [maxLen, List.length_append, List.length_cons, List.length_nil, List.length_take, List.length_drop, List.length_map]; omega) | omega); (focus rfl))
              | (apply lop_ap_on; (focus rfl); (focus exact inferInstance); (focus exact inferInstance); (focus exact inferInstance); (focus rfl); (focus rfl); (focus rfl); (focus rfl); (focus rfl); (focus rfl); (focus first | (simp only [maxLen, List.length_append, List.length_cons, List.length_nil, List.length_take, List.length_drop, List.length_map]; omega) | omega); (focus first | (simp only [maxLen, List.length_append, List.length_cons, List.length_nil, List.length_take, List.length_drop, List.length_map]; omega) | omega); (focus rfl))
              | (apply lop_ap_ex; (focus rfl); (focus exact inferInstance); (focus exact inferInstance); (focus exact inferInstance); (focus rfl); (focus rfl); (focus rfl); (focus first | (simp only [maxLen, List.length_append, List.length_cons, List.length_nil, List.length_take, List.length_drop, List.length_map]; omega) | omega); (focus first | (simp only [maxLen, List.length_append, List.length_cons, List.length_nil, List.length_take, List.length_drop, List.length_map]; omega) | omega); (focus rfl))
              | (apply lop_ap_e0; (focus rfl); (focus exact inferInstance); (focus exact inferInstance); (focus exact inferInstance); (focus rfl); (focus rfl); (focus rfl); (focus first | (simp only [maxLen, List.length_append, List.length_cons, List.length_nil, List.length_take, List.length_drop, List.length_map]; omega) | omega); (focus first | (simp only [maxLen, List.length_append, List.length_cons, List.length_nil, List.length_take, List.length_drop, List.length_map]; omega) | omega); (focus rfl))
              | (apply lop_ap_n; (focus rfl); (focus exact inferInstance); (focus exact inferInstance); (focus exact inferInstance); (focus rfl); (focus rfl); (focus rfl); (focus rfl); (focus decide); (focus rfl); (focus first | (simp only [maxLen, List.length_append, List.length_cons, List.length_nil, List.length_take, List.length_drop, List.length_map]; omega) | omega); (focus first | (simp only [maxLen, List.length_append, List.length_cons, List.length_nil, List.length_take, List.length_drop, List.length_map]; omega) | omega); (focus rfl)))
          | (apply gIndex; (focus rfl); first
              | (apply lop_ix_sl; (focus rfl); (focus exact inferInstance); (focus exact inferInstance); (focus rfl); (focus rfl); (focus omega); (focus first | exact rows_get (by omega) (by first | omega | (simp; omega)) | rfl); (focus rfl))
              | (apply lop_ix_b; (focus rfl); (focus exact inferInstance); (focus exact inferInstance); (focus rfl); (focus rfl); (focus rfl); (focus rfl); (focus omega); (focus omega); (focus omega); (focus rfl)))
          | (apply gField; (focus rfl); first
              | exact lop_fieldAddr rfl rfl (by decide) rfl rfl)
          | (apply gBin; (focus rfl); first
              | exact lop_lss rfl rfl rfl rfl
              | exact lop_eql rfl rfl rfl rfl
              | exact lop_neq rfl rfl rfl rfl
              | exact lop_leq rfl rfl rfl rfl
              | exact lop_gtr rfl rfl rfl rfl
              | exact lop_geq rfl rfl rfl rfl
              | exact lop_add' rfl rfl rfl rfl (by first | exact IntWalk.i64_in _ (by omega) | exact u64_in (by omega) | exact u32_in (by omega) | exact u8_in (by omega) | exact u16_in (by omega))
              | exact lop_sub' rfl rfl rfl rfl (by first | exact IntWalk.i64_in _ (by omega) | exact u64_in (by omega) | exact u32_in (by omega) | exact u8_in (by omega) | exact u16_in (by omega))
              | exact lop_mul' rfl rfl rfl rfl (by first | exact IntWalk.i64_in _ (by omega) | exact u64_in (by omega) | exact u32_in (by omega) | exact u8_in (by omega) | exact u16_in (by omega))
              | exact lop_eqlb rfl rfl rfl rfl
              | exact lop_neqb rfl rfl rfl rfl
              | exact lop_ptr_eqnil rfl rfl rfl rfl
              | exact lop_nil_eqnil rfl rfl rfl rfl
              | (apply lop_eqla; (focus rfl); (focus exact inferInstance); (focus first | exact lk_m1 rfl | exact lk_m2 rfl | exact lk_m3 rfl | exact lk_o rfl | exact lk_a2 rfl | exact lk_a3 rfl | exact lk_a4 rfl | exact lk_a1 rfl | exact lk_a5 rfl | exact lk_a6 rfl | exact lk_a7 rfl | exact lk_a8 rfl | exact lk_a rfl); (focus first | exact lk_m1 rfl | exact lk_m2 rfl | exact lk_m3 rfl | exact lk_o rfl | exact lk_a2 rfl | exact lk_a3 rfl | exact lk_a4 rfl | exact lk_a1 rfl | exact lk_a5 rfl | exact lk_a6 rfl | exact lk_a7 rfl | exact lk_a8 rfl | exact lk_a rfl); (focus repeat' (first | exact Plain.nil | apply Plain.cons | exact Plain.map | apply Plain.append)); (focus repeat' (first | exact Plain.nil | apply Plain.cons | exact Plain.map | apply Plain.append)); (focus repeat' (first | exact HasL.nil | apply HasL.cons rfl)); (focus repeat' (first | exact HasL.nil | apply HasL.cons rfl)); (focus exact ⟨_, _, _, inferInstance, rfl⟩); (focus rfl))
              | (apply lop_neqa; (focus rfl); (focus exact inferInstance); (focus first | exact lk_m1 rfl | exact lk_m2 rfl | exact lk_m3 rfl | exact lk_o rfl | exact lk_a2 rfl | exact lk_a3 rfl | exact lk_a4 rfl | exact lk_a1 rfl | exact lk_a5 rfl | exact lk_a6 rfl | exact lk_a7 rfl | exact lk_a8 rfl | exact lk_a rfl); (focus first | exact lk_m1 rfl | exact lk_m2 rfl | exact lk_m3 rfl | exact lk_o rfl | exact lk_a2 rfl | exact lk_a3 rfl | exact lk_a4 rfl | exact lk_a1 rfl | exact lk_a5 rfl | exact lk_a6 rfl | exact lk_a7 rfl | exact lk_a8 rfl | exact lk_a rfl); (focus repeat' (first | exact Plain.nil | apply Plain.cons | exact Plain.map | apply Plain.append)); (focus repeat' (first | exact Plain.nil | apply Plain.cons | exact Plain.map | apply Plain.append)); (focus repeat' (first | exact HasL.nil | apply HasL.cons rfl)); (focus repeat' (first | exact HasL.nil | apply HasL.cons rfl)); (focus exact ⟨_, _, _, inferInstance, rfl⟩); (focus rfl))
              | exact lop_rem' rfl rfl rfl rfl (by omega) (by omega)
              | exact lop_quo' rfl rfl rfl rfl (by omega) (by omega) (by first | exact IntWalk.i64_in _ (by omega) | exact u64_in (by omega) | exact u32_in (by omega) | exact u8_in (by omega) | exact u16_in (by omega))
              | (apply lop_sl_eqnil; (focus rfl); (focus exact inferInstance); (focus rfl); (focus rfl); (focus rfl)))
          | (apply gExtract; (focus rfl); first
              | exact lop_extract_o rfl rfl rfl rfl
              | exact lop_extract_a rfl rfl rfl rfl)
          | (apply gSlice; (focus rfl); first
              | (apply lop_sl_hm; (focus rfl); (focus exact inferInstance); (focus exact inferInstance); (focus rfl); (focus rfl); (focus rfl); (focus omega); (focus rfl); (focus omega); (focus rfl))
              | (apply lop_sl_l; (focus rfl); (focus exact inferInstance); (focus exact inferInstance); (focus rfl); (focus rfl); (focus omega); (focus omega); (focus rfl))
              | (apply lop_sl_h; (focus rfl); (focus exact inferInstance); (focus exact inferInstance); (focus rfl); (focus rfl); (focus omega); (focus omega); (focus rfl))
              | (apply lop_sl_lh; (focus rfl); (focus exact inferInstance); (focus exact inferInstance); (focus rfl); (focus rfl); (focus rfl); (focus omega); (focus omega); (focus omega); (focus rfl)))
          | exact lop_not rfl rfl rfl
          | exact lop_box_a rfl rfl rfl rfl rfl
          | exact lop_box_o rfl rfl rfl rfl rfl
          | exact lop_alloc rfl rfl rfl (by decide) rfl
          | (apply lop_build0; (focus rfl); (focus exact inferInstance); (focus exact inferInstance); (focus decide); (focus first | exact sn2 rfl | exact sn3 rfl | exact sn4 rfl | exact sn1 rfl | exact sn5 rfl | exact sn6 rfl | exact sn7 rfl | exact sn8 rfl | exact sn9 rfl | exact sn10 rfl | exact sn11 rfl | exact sn12 rfl | rfl); (focus rfl))
          | (apply lop_build1; (focus rfl); (focus exact inferInstance); (focus exact inferInstance); (focus first | exact lk_m1 rfl | exact lk_m2 rfl | exact lk_m3 rfl | exact lk_o rfl | exact lk_a2 rfl | exact lk_a3 rfl | exact lk_a4 rfl | exact lk_a1 rfl | exact lk_a5 rfl | exact lk_a6 rfl | exact lk_a7 rfl | exact lk_a8 rfl | exact lk_a rfl); (focus decide); (focus first | exact sn2 rfl | exact sn3 rfl | exact sn4 rfl | exact sn1 rfl | exact sn5 rfl | exact sn6 rfl | exact sn7 rfl | exact sn8 rfl | exact sn9 rfl | exact sn10 rfl | exact sn11 rfl | exact sn12 rfl | rfl); (focus rfl))
          | (apply lop_build2; (focus rfl); (focus exact inferInstance); (focus exact inferInstance); (focus first | exact lk_m1 rfl | exact lk_m2 rfl | exact lk_m3 rfl | exact lk_o rfl | exact lk_a2 rfl | exact lk_a3 rfl | exact lk_a4 rfl | exact lk_a1 rfl | exact lk_a5 rfl | exact lk_a6 rfl | exact lk_a7 rfl | exact lk_a8 rfl | exact lk_a rfl); (focus first | exact lk_m1 rfl | exact lk_m2 rfl | exact lk_m3 rfl | exact lk_o rfl | exact lk_a2 rfl | exact lk_a3 rfl | exact lk_a4 rfl | exact lk_a1 rfl | exact lk_a5 rfl | exact lk_a6 rfl | exact lk_a7 rfl | exact lk_a8 rfl | exact lk_a rfl); (focus decide); (focus first | exact sn2 rfl | exact sn3 rfl | exact sn4 rfl | exact sn1 rfl | exact sn5 rfl | exact sn6 rfl | exact sn7 rfl | exact sn8 rfl | exact sn9 rfl | exact sn10 rfl | exact sn11 rfl | exact sn12 rfl | rfl); (focus rfl))
          | (apply lop_build3; (focus rfl); (focus exact inferInstance); (focus exact inferInstance); (focus first | exact lk_m1 rfl | exact lk_m2 rfl | exact lk_m3 rfl | exact lk_o rfl | exact lk_a2 rfl | exact lk_a3 rfl | exact lk_a4 rfl | exact lk_a1 rfl | exact lk_a5 rfl | exact lk_a6 rfl | exact lk_a7 rfl | exact lk_a8 rfl | exact lk_a rfl); (focus first | exact lk_m1 rfl | exact lk_m2 rfl | exact lk_m3 rfl | exact lk_o rfl | exact lk_a2 rfl | exact lk_a3 rfl | exact lk_a4 rfl | exact lk_a1 rfl | exact lk_a5 rfl | exact lk_a6 rfl | exact lk_a7 rfl | exact lk_a8 rfl | exact lk_a rfl); (focus first | exact lk_m1 rfl | exact lk_m2 rfl | exact lk_m3 rfl | exact lk_o rfl | exact lk_a2 rfl | exact lk_a3 rfl | exact lk_a4 rfl | exact lk_a1 rfl | exact lk_a5 rfl | exact lk_a6 rfl | exact lk_a7 rfl | exact lk_a8 rfl | exact lk_a rfl); (focus decide); (focus first | exact sn2 rfl | exact sn3 rfl | exact sn4 rfl | exact sn1 rfl | exact sn5 rfl | exact sn6 rfl | exact sn7 rfl | exact sn8 rfl | exact sn9 rfl | exact sn10 rfl | exact sn11 rfl | exact sn12 rfl | rfl); (focus rfl))
          | (apply lop_build4; (focus rfl); (focus exact inferInstance); (focus exact inferInstance); (focus first | exact lk_m1 rfl | exact lk_m2 rfl | exact lk_m3 rfl | exact lk_o rfl | exact lk_a2 rfl | exact lk_a3 rfl | exact lk_a4 rfl | exact lk_a1 rfl | exact lk_a5 rfl | exact lk_a6 rfl | exact lk_a7 rfl | exact lk_a8 rfl | exact lk_a rfl); (focus first | exact lk_m1 rfl | exact lk_m2 rfl | exact lk_m3 rfl | exact lk_o rfl | exact lk_a2 rfl | exact lk_a3 rfl | exact lk_a4 rfl | exact lk_a1 rfl | exact lk_a5 rfl | exact lk_a6 rfl | exact lk_a7 rfl | exact lk_a8 rfl | exact lk_a rfl); (focus first | exact lk_m1 rfl | exact lk_m2 rfl | exact lk_m3 rfl | exact lk_o rfl | exact lk_a2 rfl | exact lk_a3 rfl | exact lk_a4 rfl | exact lk_a1 rfl | exact lk_a5 rfl | exact lk_a6 rfl | exact lk_a7 rfl | exact lk_a8 rfl | exact lk_a rfl); (focus first | exact lk_m1 rfl | exact lk_m2 rfl | exact lk_m3 rfl | exact lk_o rfl | exact lk_a2 rfl | exact lk_a3 rfl | exact lk_a4 rfl | exact lk_a1 rfl | exact lk_a5 rfl | exact lk_a6 rfl | exact lk_a7 rfl | exact lk_a8 rfl | exact lk_a rfl); (focus decide); (focus first | exact sn2 rfl | exact sn3 rfl | exact sn4 rfl | exact sn1 rfl | exact sn5 rfl | exact sn6 rfl | exact sn7 rfl | exact sn8 rfl | exact sn9 rfl | exact sn10 rfl | exact sn11 rfl | exact sn12 rfl | rfl); (focus rfl))
          | exact lop_nilCheck rfl rfl rfl
          | exact lop_conv' rfl rfl rfl (by first | exact IntWalk.i64_in _ (by omega) | exact u64_in (by omega) | exact u32_in (by omega) | exact u8_in (by omega) | exact u16_in (by omega))
          | (apply lop_ms_b; (focus rfl); (focus exact inferInstance); (focus exact inferInstance); (focus exact inferInstance); (focus rfl); (focus rfl); (focus rfl); (focus rfl); (focus rfl); (focus omega); (focus omega); (focus omega); (focus rfl); (focus rfl))
          | (apply lop_ms_i; (focus rfl); (focus exact inferInstance); (focus exact inferInstance); (focus exact inferInstance); (focus rfl); (focus rfl); (focus rfl); (focus rfl); (focus rfl); (focus omega); (focus omega); (focus omega); (focus rfl); (focus rfl))
          | (apply lop_bs0; (focus rfl); (focus exact inferInstance); (focus exact inferInstance); (focus exact inferInstance); (focus rfl); (focus rfl))
          | (apply lop_bs1; (focus rfl); (focus exact inferInstance); (focus exact inferInstance); (focus exact inferInstance); (focus rfl); (focus rfl); (focus rfl))
          | (apply lop_bs2; (focus rfl); (focus exact inferInstance); (focus exact inferInstance); (focus exact inferInstance); (focus rfl); (focus rfl); (focus rfl); (focus rfl))
          | (apply lop_bs3; (focus rfl); (focus exact inferInstance); (focus exact inferInstance); (focus exact inferInstance); (focus rfl); (focus rfl); (focus rfl); (focus rfl); (focus rfl))
          | (apply lop_bs4; (focus rfl); (focus exact inferInstance); (focus exact inferInstance); (focus exact inferInstance); (focus rfl); (focus rfl); (focus rfl); (focus rfl); (focus rfl); (focus rfl))
          | (apply lop_bs5; (focus rfl); (focus exact inferInstance); (focus exact inferInstance); (focus exact inferInstance); (focus rfl); (focus rfl); (focus rfl); (focus rfl); (focus rfl); (focus rfl); (focus rfl))) : LOp C o σ e ro := h
theorem stoA {C : Ctx} {o : Oper} {σ : St} {e : Eff} {ro : Nat → Bool} (h : LOp C o σ e ro := by
    first
          | (apply lop_st_b; (focus rfl); (focus exact inferInstance); (focus rfl); (focus rfl); (focus rfl); (focus rfl); (focus rfl); (focus rfl); (focus rfl); (focus rfl); (focus omega))
          | (apply lop_store_x; (focus rfl); (focus exact inferInstance); (focus rfl); (focus rfl); (focus rfl); (focus rfl); (focus rfl); (focus rfl); (focus first | decide | (simp [*]; done)); (focus first | exact ln2 rfl | exact ln3 rfl | exact ln4 rfl | exact ln1 rfl | exact ln5 rfl | exact ln6 rfl | exact ln7 rfl | exact ln8 rfl | exact ln9 rfl | exact ln10 rfl | exact ln11 rfl | exact ln12 rfl | rfl))
          | exact lop_store_all rfl rfl rfl rfl rfl rfl rfl rfl
          | exact lop_store_all rfl rfl rfl rfl rfl rfl (by simp [*]) (by simp [*])) : LOp C o σ e ro := h
theorem gdA {C : Ctx} {ops : Array Oper} {σ : St} {o : Oper} {r : Bool} (h : Guard ops σ o r := by first | exact gd_n rfl rfl | exact gd_t rfl rfl rfl rfl | exact gd_t rfl rfl rfl (by assumption)) : Guard ops σ o r := h
theorem knA {α : Type} {f : Nat → α} {l : List (Nat × α)} (h : Knows f l := by repeat' (first | exact Knows.nil | refine Knows.cons rfl ?_)) : Knows f l := h
theorem frA {σ τ : St} {W M : List Nat} {e : List (Nat × AV)} {m : List (Nat × (Nat × Option MO))} (h : Agr σ W M τ := by (repeat' (first | exact Agr.fr0 rfl rfl | exact Agr.refl | refine Agr.appg rfl rfl ?_ | refine Agr.appgn rfl ?_ | refine Agr.set rfl ?_ | refine Agr.put rfl ?_ | refine Agr.fr ?_ (memb_sub rfl) (memb_sub rfl) rfl rfl)))
    (he : Knows τ.env e := by exact knA) (hm : Knows τ.mem m := by exact knA) : Fr' σ W e M m τ := .mk h he hm

section steps
variable {C : Ctx} {ops : Array Oper} {o : Oper} {rest : List Oper} {K : St → Prop} {σ : St} {e : Eff} {ro : Nat → Bool} {W : List (Nat × Nat)} {i : Nat}
theorem rnA {d : Nat} (hk : RunN C ops rest K (e.app (some d) σ)) (hg : Guard ops σ o true := by first | exact gd_n rfl rfl | exact gd_t rfl rfl rfl rfl | exact gd_t rfl rfl rfl (by assumption)) (hd : o.dst = some d := by rfl) (h : LOp C o σ e ro := by exact lopA) : RunN C ops (o :: rest) K σ := rn_any hg hd h hk
theorem rnS (hk : RunN C ops rest K (e.app none σ)) (hg : Guard ops σ o true := by first | exact gd_n rfl rfl | exact gd_t rfl rfl rfl rfl | exact gd_t rfl rfl rfl (by assumption)) (hd : o.dst = none := by rfl) (h : LOp C o σ e ro := by exact stoA) : RunN C ops (o :: rest) K σ := rn_sto hg hd h hk
theorem rnG {j t : Nat} {want b : Bool} {d : Nat} (hk : RunN C ops rest K (σ.set (some d) .un)) (hg : o.guard = some (j, want) := by rfl) (ht : (ops[j]?).bind (·.dst) = some t := by rfl) (hv : σ.env t = .p (.v (.bool b)) := by rfl) (hb : b = !want := by first | rfl | assumption) (hdd : o.dst = some d := by rfl) (hd : dOk C o.dst = true := by rfl) : RunN C ops (o :: rest) K σ := rn_gf hg ht hv hb hdd hd hk
theorem rnP {j t : Nat} {want b : Bool} (h1 : b = true → RunN C ops (o :: rest) K σ) (h2 : b = false → RunN C ops (o :: rest) K σ) (hg : o.guard = some (j, want) := by rfl) (ht : (ops[j]?).bind (·.dst) = some t := by rfl) (hv : σ.env t = .p (.v (.bool b)) := by rfl) : RunN C ops (o :: rest) K σ := rn_split hg ht hv h1 h2
theorem rnKn {j t : Nat} {want b : Bool} (hk : RunN C ops (o :: rest) K σ) (hg : o.guard = some (j, want) := by rfl) (ht : (ops[j]?).bind (·.dst) = some t := by rfl) (hv : σ.env t = .p (.v (.bool b)) := by rfl) (hb : b = true ∨ b = false := by first | exact .inl (by assumption) | exact .inr (by assumption)) : RunN C ops (o :: rest) K σ := hk
theorem rkKn {j t : Nat} {want b : Bool} (hk : RunK C ops W i (o :: rest) K σ) (hg : o.guard = some (j, want) := by rfl) (ht : (ops[j]?).bind (·.dst) = some t := by rfl) (hv : σ.env t = .p (.v (.bool b)) := by rfl) (hb : b = true ∨ b = false := by first | exact .inl (by assumption) | exact .inr (by assumption)) : RunK C ops W i (o :: rest) K σ := hk
theorem rkA {d : Nat} (hk : RunK C ops W (i + 1) rest K (e.app (some d) σ)) (hg : Guard ops σ o true := by first | exact gd_n rfl rfl | exact gd_t rfl rfl rfl rfl | exact gd_t rfl rfl rfl (by assumption)) (hd' : o.dst = some d := by rfl) (hd : dOk C o.dst = true := by rfl) (h : LOp C o σ e ro := by exact lopA)
    (hro : ∀ x, ro x = true → okObj ops W i x = true := by first | exact fun _ => ro_none | exact ro_one rfl | exact ro_one (by kernel_rfl) | exact ro_kIn (by decide)) (hob : ∀ p ∈ e.obj, (i, p.1) ∈ W := by first | exact ob_none | exact ob_one (by decide) | decide) : RunK C ops W i (o :: rest) K σ := rk_wr hg hd' hd h hro hob hk
theorem rkF {j t : Nat} {want b : Bool} {d : Nat} (hk : RunK C ops W (i + 1) rest K (σ.set (some d) .un)) (hg : o.guard = some (j, want) := by rfl) (ht : (ops[j]?).bind (·.dst) = some t := by rfl) (hv : σ.env t = .p (.v (.bool b)) := by rfl) (hb : b = !want := by first | rfl | assumption) (hdd : o.dst = some d := by rfl) (hd : dOk C o.dst = true := by rfl) : RunK C ops W i (o :: rest) K σ := rk_gf hg ht hv hb hdd hd hk
theorem rkP {j t : Nat} {want b : Bool} (h1 : b = true → RunK C ops W i (o :: rest) K σ) (h2 : b = false → RunK C ops W i (o :: rest) K σ) (hg : o.guard = some (j, want) := by rfl) (ht : (ops[j]?).bind (·.dst) = some t := by rfl) (hv : σ.env t = .p (.v (.bool b)) := by rfl) : RunK C ops W i (o :: rest) K σ := rk_split hg ht hv h1 h2
end steps
theorem ifT {C : Ctx} {σ : St} {Q : Exit → St → Prop} {k : List Code} {cd : Operand} {x y : Code} {b : Bool} (h1 : AWs C (x :: k) Q σ) (hv : σ.look cd = .p (.v (.bool b)) := by rfl) (hb : b = true := by first | rfl | assumption) : AWs C (.cond cd x y :: k) Q σ := aws_if_t hv hb h1
theorem ifF {C : Ctx} {σ : St} {Q : Exit → St → Prop} {k : List Code} {cd : Operand} {x y : Code} {b : Bool} (h1 : AWs C (y :: k) Q σ) (hv : σ.look cd = .p (.v (.bool b)) := by rfl) (hb : b = false := by first | rfl | assumption) : AWs C (.cond cd x y :: k) Q σ := aws_if_f hv hb h1
theorem ifB {C : Ctx} {σ : St} {Q : Exit → St → Prop} {k : List Code} {cd : Operand} {x y : Code} {b : Bool} (h1 : b = true → AWs C (x :: k) Q σ) (h2 : b = false → AWs C (y :: k) Q σ) (hv : σ.look cd = .p (.v (.bool b)) := by rfl) : AWs C (.cond cd x y :: k) Q σ := aws_if hv h1 h2
theorem ifQ {C : Ctx} {σ : St} {Q : Exit → St → Prop} {k : List Code} {cd : Operand} {x y : Code} {q : Prop} (h1 : q → AWs C (x :: k) Q σ) (h2 : True → AWs C (y :: k) Q σ) (hv : σ.look cd = .p (.qb q) := by rfl) : AWs C (.cond cd x y :: k) Q σ := aws_if_qb hv h1 h2
end Go.Aw
