/- THE ABSTRACT WALK, part 1: abstract values and states, what it means that a state stands for a frame and a world, and the rules for the forms of code. Nothing here speaks of a program. -/
import Derived.WalkKit
import Derived.Deep.Quiet
import Derived.Laws.CopyRow
import Derived.RangeFuncLeaves
import Derived.RangeFuncCalls
import Derived.OrdersIn
import Derived.LoopIn
namespace Go.Aw
open Go Go.RowKit
set_option linter.unusedVariables false
set_option linter.unusedSimpArgs false

/-- a world, and blocks of which it is known that they stay as they are -/
structure Wd where
  w : World
  S : Nat → Prop

def Wd.le (x y : Wd) : Prop := ∀ b, x.S b → y.S b ∧ y.w.heap[b]? = x.w.heap[b]?
theorem Wd.le.refl (x : Wd) : x.le x := fun _ h => ⟨h, rfl⟩
theorem Wd.le.trans {x y z : Wd} (h : x.le y) (k : y.le z) : x.le z := fun b hb => ⟨(k b (h b hb).1).1, ((k b (h b hb).1).2).trans (h b hb).2⟩

/-- what is known of one cell's value, for ever -/
structure PVal where
  holds : Wd → Value → Prop
  mono : ∀ {x y v}, x.le y → holds x v → holds y v
  one : ∀ {x v}, holds x v → v.oneCell' = true

/-- just this value -/
def PVal.v (c : Value) : PVal := ⟨fun _ v => v = c ∧ c.oneCell' = true, fun _ h => h, fun h => by obtain ⟨rfl, h⟩ := h; exact h⟩
abbrev PVal.i (n : Int) : PVal := .v (.int .i64 n)
abbrev PVal.k (k : IntKind) (n : Int) : PVal := .v (.int k n)
abbrev PVal.b (b : Bool) : PVal := .v (.bool b)

/-- both lists alike, place by place -/
def All2 {α β : Type} (R : α → β → Prop) (l : List α) (m : List β) : Prop := l.length = m.length ∧ ∀ (i : Nat) a b, l[i]? = some a → m[i]? = some b → R a b

theorem All2.mono {α β : Type} {R R' : α → β → Prop} {l : List α} {m : List β} (h : All2 R l m) (hr : ∀ a b, R a b → R' a b) : All2 R' l m := ⟨h.1, fun i a b h1 h2 => hr _ _ (h.2 i a b h1 h2)⟩
theorem All2.nil {α β : Type} {R : α → β → Prop} : All2 R [] [] := ⟨rfl, fun i a b h _ => by simp at h⟩
theorem All2.cons {α β : Type} {R : α → β → Prop} {a : α} {b : β} {l : List α} {m : List β} (h : R a b) (k : All2 R l m) : All2 R (a :: l) (b :: m) := by
  refine ⟨by simp [k.1], fun i x y hx hy => ?_⟩
  cases i with
  | zero => simp at hx hy; subst hx; subst hy; exact h
  | succ i => simp at hx hy; exact k.2 i x y hx hy
theorem All2.cons_inv {α β : Type} {R : α → β → Prop} {a : α} {l : List α} {m : List β} (h : All2 R (a :: l) m) : ∃ b m', m = b :: m' ∧ R a b ∧ All2 R l m' := by
  cases m with
  | nil => have := h.1; simp at this
  | cons b m' => exact ⟨b, m', rfl, h.2 0 a b rfl rfl, ⟨by have := h.1; simpa using this, fun i x y hx hy => h.2 (i+1) x y (by simpa using hx) (by simpa using hy)⟩⟩
theorem All2.nil_inv {α β : Type} {R : α → β → Prop} {m : List β} (h : All2 R [] m) : m = [] := by
  have := h.1; simpa using this.symm
theorem All2.get {α β : Type} {R : α → β → Prop} {l : List α} {m : List β} (h : All2 R l m) {i : Nat} {a : α} (ha : l[i]? = some a) : ∃ b, m[i]? = some b ∧ R a b := by
  have hi : i < l.length := (List.getElem?_eq_some_iff.1 ha).1
  have hm : i < m.length := by rw [← h.1]; exact hi
  exact ⟨m[i], by simp [hm], h.2 i a m[i] ha (by simp [hm])⟩
theorem All2.append {α β : Type} {R : α → β → Prop} {l l' : List α} {m m' : List β} (h : All2 R l m) (k : All2 R l' m') : All2 R (l ++ l') (m ++ m') := by
  refine ⟨by simp [h.1, k.1], fun i a b ha hb => ?_⟩
  by_cases hi : i < l.length
  · rw [List.getElem?_append_left hi] at ha
    rw [List.getElem?_append_left (h.1 ▸ hi)] at hb
    exact h.2 i a b ha hb
  · rw [List.getElem?_append_right (by omega)] at ha
    rw [List.getElem?_append_right (by rw [← h.1]; omega), ← h.1] at hb
    exact k.2 _ a b ha hb
theorem All2.take {α β : Type} {R : α → β → Prop} {l : List α} {m : List β} (h : All2 R l m) (n : Nat) : All2 R (l.take n) (m.take n) := by
  refine ⟨by simp [h.1], fun i a b ha hb => ?_⟩
  rw [List.getElem?_take] at ha hb
  split at ha <;> simp_all
  rename_i hi
  exact h.2 i a b ha hb
theorem All2.drop {α β : Type} {R : α → β → Prop} {l : List α} {m : List β} (h : All2 R l m) (n : Nat) : All2 R (l.drop n) (m.drop n) :=
  ⟨by simp [h.1], fun i a b ha hb => h.2 (n + i) a b (by simpa using ha) (by simpa using hb)⟩

/-- the rows of a slice, in a block's cells from a place on -/
def RowsAt (X : Wd) (cs : Array Value) (off es : Nat) (rows : List (List PVal)) : Prop :=
  ∀ i row, rows[i]? = some row → row.length = es ∧ ∀ j p, row[j]? = some p → ∃ c, cs[off + i * es + j]? = some c ∧ p.holds X c

/-- a slice whose elements stay as they are: its rows (one an element, es cells each); exact: its capacity is its length -/
def PVal.sl (es : Nat) (rows : List (List PVal)) (ex : Bool) : PVal where
  holds X v := ∃ base cap, v = .slice base rows.length cap ∧ rows.length ≤ cap ∧ cap ≤ maxLen ∧ (ex = true → cap = rows.length) ∧
    match base with
    | none => rows = [] ∧ cap = 0
    | some a => rows = [] ∨ (a.spot = none ∧ X.S a.block ∧ ∃ cs ty fr, X.w.heap[a.block]? = some (.cells cs ty fr) ∧ RowsAt X cs a.off es rows)
  mono := by
    rintro x y v hle ⟨base, cap, h1, h2, h3, h4, h5⟩
    refine ⟨base, cap, h1, h2, h3, h4, ?_⟩
    cases base with
    | none => exact h5
    | some a =>
      rcases h5 with h5 | ⟨g1, g2, cs, ty, fr, g3, g4⟩
      · exact .inl h5
      refine .inr ⟨g1, (hle _ g2).1, cs, ty, fr, (hle _ g2).2.trans g3, fun i row hr => ⟨(g4 i row hr).1, fun j p hp => ?_⟩⟩
      obtain ⟨c, hc, hh⟩ := (g4 i row hr).2 j p hp
      exact ⟨c, hc, p.mono hle hh⟩
  one := by rintro x v ⟨base, cap, rfl, _⟩; rfl

/-- abstract cells: pure; a pointer into an own object (its number, its generation, the offset); an own growing slice; a slice of an own array -/
inductive AC where
  | p (x : PVal)
  | ptr (o g off : Nat)
  | osl (o g es lo len : Nat)
  | asl (o g off len cap : Nat)

abbrev Mu := Nat → List (Option Nat × Nat)
def Mu.le (m m' : Mu) : Prop := ∀ (o g : Nat) x, (m o)[g]? = some x → (m' o)[g]? = some x
theorem Mu.le.refl (m : Mu) : m.le m := fun _ _ _ h => h
theorem Mu.le.trans {a b c : Mu} (h : a.le b) (k : b.le c) : a.le c := fun o g x hx => k o g x (h o g x hx)
def Mu.none : Mu := fun _ => []
theorem Mu.none_le (m : Mu) : Mu.none.le m := fun o g x h => by simp [Mu.none] at h

def AC.holds (μ : Mu) (X : Wd) : AC → Value → Prop
  | .p x, v => x.holds X v
  | .ptr o g off, v => ∃ b c, (μ o)[g]? = some (some b, c) ∧ v = .pointer (some ⟨b, off, none⟩)
  | .osl o g es lo len, v => ∃ m c, (μ o)[g]? = some (m, c) ∧ lo + len ≤ c ∧ v = .slice (m.map fun b => ⟨b, lo * es, none⟩) len (c - lo)
  | .asl o g off len cap, v => ∃ b c, (μ o)[g]? = some (some b, c) ∧ v = .slice (some ⟨b, off, none⟩) len cap

theorem AC.holds.mono {μ μ' : Mu} {X Y : Wd} {c : AC} {v : Value} (h : c.holds μ X v) (hm : μ.le μ') (hl : X.le Y) : c.holds μ' Y v := by
  cases c with
  | p x => exact x.mono hl h
  | ptr o g off => obtain ⟨b, c, h1, h2⟩ := h; exact ⟨b, c, hm _ _ _ h1, h2⟩
  | osl o g es lo len => obtain ⟨m, c, h1, h2⟩ := h; exact ⟨m, c, hm _ _ _ h1, h2⟩
  | asl o g off len cap => obtain ⟨b, c, h1, h2⟩ := h; exact ⟨b, c, hm _ _ _ h1, h2⟩
theorem AC.holds.one {μ : Mu} {X : Wd} {c : AC} {v : Value} (h : c.holds μ X v) : v.oneCell' = true := by
  cases c with
  | p x => exact x.one h
  | ptr o g off => obtain ⟨b, c, h1, rfl⟩ := h; rfl
  | osl o g es lo len => obtain ⟨m, c, h1, _, rfl⟩ := h; rfl
  | asl o g off len cap => obtain ⟨b, c, h1, rfl⟩ := h; rfl

inductive SV where
  | one (c : AC)
  | agg (cs : List AC)

def SV.holds (μ : Mu) (X : Wd) : SV → Value → Prop
  | .one c, v => c.holds μ X v
  | .agg cs, v => ∃ arr : List Value, v = .agg arr.toArray ∧ All2 (AC.holds μ X) cs arr
theorem SV.holds.mono {μ μ' : Mu} {X Y : Wd} {c : SV} {v : Value} (h : c.holds μ X v) (hm : μ.le μ') (hl : X.le Y) : c.holds μ' Y v := by
  cases c with
  | one c => exact AC.holds.mono h hm hl
  | agg cs => obtain ⟨arr, rfl, h⟩ := h; exact ⟨arr, rfl, h.mono fun _ _ k => k.mono hm hl⟩
def SV.cells : SV → List AC
  | .one c => [c]
  | .agg cs => cs
theorem SV.holds.cells {μ : Mu} {X : Wd} {c : SV} {v : Value} (h : c.holds μ X v) : All2 (AC.holds μ X) c.cells v.cells.toList := by
  cases c with
  | one c =>
    have h1 : v.cells = #[v] := by
      have := AC.holds.one h
      cases v <;> simp_all [Value.oneCell', Value.cells]
    rw [h1]; exact .cons h .nil
  | agg cs => obtain ⟨arr, rfl, h⟩ := h; simpa [Value.cells, SV.cells] using h

/-- what is known of a slot -/
inductive AV where
  | un
  | s (v : SV)
  | tup (vs : List SV)
abbrev AV.o (c : AC) : AV := .s (.one c)
abbrev AV.p (x : PVal) : AV := .s (.one (.p x))
abbrev AV.a (cs : List AC) : AV := .s (.agg cs)

def AV.holds (μ : Mu) (X : Wd) : AV → Value → Prop
  | .un, _ => True
  | .s q, v => q.holds μ X v
  | .tup vs, v => ∃ arr : List Value, v = .tuple arr.toArray ∧ All2 (SV.holds μ X) vs arr
theorem AV.holds.mono {μ μ' : Mu} {X Y : Wd} {c : AV} {v : Value} (h : c.holds μ X v) (hm : μ.le μ') (hl : X.le Y) : c.holds μ' Y v := by
  cases c with
  | un => trivial
  | s q => exact SV.holds.mono (c := q) h hm hl
  | tup vs => obtain ⟨arr, rfl, h⟩ := h; exact ⟨arr, rfl, h.mono fun _ _ k => k.mono hm hl⟩

/-- an object of which only a predicate is known: it hangs on its own blocks and on those that stay -/
structure AObj where
  holds : Wd → Nat → List Nat → Prop
  mono : ∀ {x y b fp}, x.le y → (∀ k, k ∈ fp → y.w.heap[k]? = x.w.heap[k]?) → holds x b fp → holds y b fp

/-- the content of an own object: a variable's cells; a growing slice's rows (pure); something else -/
inductive MO where
  | box (ty : TypeId) (cs : List AC)
  | buf (ty : TypeId) (es : Nat) (rows : List (List PVal))
  | frz (ty : TypeId) (es : Nat) (rows : List (List PVal))
  | abs (A : AObj)

def MO.holds (μ : Mu) (X : Wd) : MO → Option Nat × Nat → List Nat → Prop
  | .box ty cs, m, fp => ∃ b arr, m.1 = some b ∧ fp = [b] ∧ X.w.heap[b]? = some (.cells (List.toArray arr) ty (0, 0)) ∧ All2 (AC.holds μ X) cs arr
  | .buf ty es rows, m, fp => 0 < es ∧ m.2 ≤ maxLen ∧ rows.length ≤ m.2 ∧ ((m.1 = none ∧ m.2 = 0 ∧ fp = []) ∨
      ∃ b arr, m.1 = some b ∧ fp = [b] ∧ X.w.heap[b]? = some (.cells arr ty (0, 0)) ∧ arr.size = m.2 * es ∧ RowsAt X arr 0 es rows)
  | .frz ty es rows, m, fp => fp = [] ∧ m.2 ≤ maxLen ∧ rows.length ≤ m.2 ∧ ((m.1 = none ∧ m.2 = 0) ∨
      ∃ b arr, m.1 = some b ∧ X.S b ∧ X.w.heap[b]? = some (.cells arr ty (0, 0)) ∧ RowsAt X arr 0 es rows)
  | .abs A, m, fp => ∃ b, m.1 = some b ∧ A.holds X b fp

theorem MO.holds.mono {μ μ' : Mu} {X Y : Wd} {c : MO} {m : Option Nat × Nat} {fp : List Nat} (h : c.holds μ X m fp) (hm : μ.le μ') (hl : X.le Y) (hf : ∀ k, k ∈ fp → Y.w.heap[k]? = X.w.heap[k]?) :
    c.holds μ' Y m fp := by
  cases c with
  | box ty cs =>
    obtain ⟨b, arr, h1, h2, h3, h4⟩ := h
    exact ⟨b, arr, h1, h2, (hf b (by simp [h2])).trans h3, h4.mono fun _ _ k => k.mono hm hl⟩
  | buf ty es rows =>
    obtain ⟨h0, h1, h2, h3⟩ := h
    refine ⟨h0, h1, h2, ?_⟩
    rcases h3 with h3 | ⟨b, arr, g1, g2, g3, g4, g5⟩
    · exact .inl h3
    · refine .inr ⟨b, arr, g1, g2, (hf b (by simp [g2])).trans g3, g4, fun i row hr => ⟨(g5 i row hr).1, fun j p hp => ?_⟩⟩
      obtain ⟨c, hc, hh⟩ := (g5 i row hr).2 j p hp
      exact ⟨c, hc, p.mono hl hh⟩
  | frz ty es rows =>
    obtain ⟨h0, h1, h2, h3⟩ := h
    refine ⟨h0, h1, h2, ?_⟩
    rcases h3 with h3 | ⟨b, arr, g1, g2, g3, g5⟩
    · exact .inl h3
    · refine .inr ⟨b, arr, g1, (hl b g2).1, (hl b g2).2.trans g3, fun i row hr => ⟨(g5 i row hr).1, fun j p hp => ?_⟩⟩
      obtain ⟨c, hc, hh⟩ := (g5 i row hr).2 j p hp
      exact ⟨c, hc, p.mono hl hh⟩
  | abs A => obtain ⟨b, h1, h2⟩ := h; exact ⟨b, h1, A.mono hl hf h2⟩

/-- the abstract state: the slots; of each object how many generations there were, and the content of the last one -/
structure St where
  env : Nat → AV
  mem : Nat → Nat × Option MO

def St.set (σ : St) (d : Option Nat) (v : AV) : St :=
  match d with
  | none => σ
  | some d => { σ with env := fun t => if t = d then v else σ.env t }
def St.put (σ : St) (o : Nat) (m : Nat × Option MO) : St := { σ with mem := fun x => if x = o then m else σ.mem x }

/-- what a call begins with: the program, the world, which old blocks it may write, which stay, how many slots -/
structure Ctx where
  P : Program
  w0 : World
  F : Nat → Prop
  S0 : Nat → Prop
  N : Nat
  ro : Option Nat
  M0 : Mu

/-- the fence: none; but for a round of a range over a function -/
def fz (ro : Option Nat) : Fence := { Fence.wide with round := ro }
/-- the mark of a block of deferred calls -/
def markOf (b : Nat) : Deferred := { target := .collected b, args := #[] }

structure Gh where
  μ : Mu
  S : Nat → Prop
  φ : Nat → List Nat

structure Fr (C : Ctx) (w : World) : Prop where
  os : w.os = C.w0.os
  tape : w.tape = C.w0.tape
  output : w.output = C.w0.output
  size : C.w0.heap.size ≤ w.heap.size
  block : ∀ k, k < C.w0.heap.size → ¬ C.F k → w.heap[k]? = C.w0.heap[k]?

structure RelG (C : Ctx) (σ : St) (a : Act) (w : World) (G : Gh) : Prop where
  size : a.tmps.size = C.N
  defers : ∀ d, d ∈ a.defers → ∃ b, d = markOf b ∧ C.w0.heap.size ≤ b ∧ b < w.heap.size ∧ w.heap[b]? = some (.deferred (some [])) ∧ ¬ G.S b ∧ ∀ o, b ∉ G.φ o
  dnod : a.defers.Nodup
  mle : C.M0.le G.μ
  env : ∀ t, (σ.env t).holds G.μ ⟨w, G.S⟩ (a.tmps.getD t undef)
  gens : ∀ o, (G.μ o).length = (σ.mem o).1
  mem : ∀ o n mo, σ.mem o = (n, some mo) → ∃ g m, n = g + 1 ∧ (G.μ o)[g]? = some m ∧ mo.holds G.μ ⟨w, G.S⟩ m (G.φ o)
  apart : ∀ o o' b, o ≠ o' → b ∈ G.φ o → b ∈ G.φ o' → False
  stab : ∀ o b, b ∈ G.φ o → ¬ G.S b
  own : ∀ o b, b ∈ G.φ o → (C.w0.heap.size ≤ b ∨ C.F b) ∧ b < w.heap.size
  sbd : ∀ b, G.S b → b < w.heap.size ∧ (C.S0 b ∨ C.w0.heap.size ≤ b ∨ C.F b)
  ssub : ∀ b, C.S0 b → G.S b
  fr : Fr C w

def Rel (C : Ctx) (σ : St) (a : Act) (w : World) : Prop := ∃ G, RelG C σ a w G

/-- code, from an abstract state on -/
def AW (C : Ctx) (c : Code) (Q : Exit → St → Prop) (σ : St) : Prop :=
  ∀ a w, Rel C σ a w → c.wpIn (fz C.ro) 0 C.P (fun e a' w' => ∃ σ', Q e σ' ∧ Rel C σ' a' w') a w

/-- pieces of code, one behind the other -/
def AWs (C : Ctx) : List Code → (Exit → St → Prop) → St → Prop
  | [], Q, σ => Q .normal σ
  | c :: k, Q, σ => AW C c (fun e s => match e with | .normal => AWs C k Q s | e => Q e s) σ

/-- behind a block -/
def blk (id : Nat) (K : St → Prop) (Q : Exit → St → Prop) : Exit → St → Prop
  | .normal, σ => K σ
  | .exit i, σ => if i = id then K σ else Q (.exit i) σ
  | e, σ => Q e σ

section rules
variable {C : Ctx} {Q : Exit → St → Prop} {σ : St} {c r x y : Code} {k : List Code}

theorem aw_mono {Q' : Exit → St → Prop} (h : AW C c Q σ) (hq : ∀ e s, Q e s → Q' e s) : AW C c Q' σ :=
  fun a w hr => wpIn_mono (h a w hr) fun e a' w' ⟨s, q, r⟩ => ⟨s, hq _ _ q, r⟩
theorem aws_mono {Q' : Exit → St → Prop} (hq : ∀ e s, Q e s → Q' e s) : ∀ {k : List Code} {σ : St}, AWs C k Q σ → AWs C k Q' σ
  | [], _, h => hq _ _ h
  | _ :: _, _, h => aw_mono h fun e s q => by
    cases e with
    | normal => exact aws_mono hq q
    | _ => exact hq _ _ q

theorem aws_one (h : AWs C [c] Q σ) : AW C c Q σ := aw_mono h fun e s q => by cases e <;> exact q

theorem aws_seq (h : AWs C (x :: y :: k) Q σ) : AWs C (.seq x y :: k) Q σ := by
  intro a w hr
  refine wpIn_seq (wpIn_mono (h a w hr) ?_)
  rintro e a' w' ⟨s, q, r⟩
  cases e with
  | normal => exact q a' w' r
  | _ => exact ⟨s, q, r⟩

theorem aws_skip (h : AWs C k Q σ) : AWs C (.skip :: k) Q σ := fun a w hr => wpIn_skip ⟨σ, h, hr⟩
theorem aws_ret (h : Q .ret σ) : AWs C (.ret :: k) Q σ := fun a w hr => wpIn_ret ⟨σ, h, hr⟩
theorem aws_exit {id : Nat} (h : Q (.exit id) σ) : AWs C (.exit id :: k) Q σ := fun a w hr => wpIn_exit ⟨σ, h, hr⟩
theorem aws_goto {l : Nat} (h : Q (.goto l) σ) : AWs C (.goto l :: k) Q σ := fun a w hr => wpIn_goto ⟨σ, h, hr⟩
theorem aws_label {l : Nat} (h : AWs C k Q σ) : AWs C (.label l :: k) Q σ := fun a w hr => wpIn_label ⟨σ, h, hr⟩

theorem aws_block {id : Nat} (h : AWs C [c] (blk id (AWs C k Q) Q) σ) : AWs C (.block id c :: k) Q σ := by
  intro a w hr
  refine wpIn_block (wpIn_mono (h a w hr) ?_)
  rintro e a' w' ⟨s, q, r⟩
  cases e with
  | exit i =>
    by_cases hi : i = id
    · subst hi
      simp only [Exit.inBlock, if_true]
      have q' : AWs C k Q s := by simpa [blk] using q
      exact ⟨s, q', r⟩
    · simp only [Exit.inBlock, hi, if_false]
      have q' : Q (.exit i) s := by simpa [blk, hi] using q
      exact ⟨s, q', r⟩
  | normal => exact ⟨s, q, r⟩
  | _ => exact ⟨s, q, r⟩

theorem blk_normal {id : Nat} {K : St → Prop} (h : K σ) : blk id K Q .normal σ := h
theorem blk_exit {id : Nat} {K : St → Prop} (h : K σ) : blk id K Q (.exit id) σ := by simpa [blk] using h
theorem blk_exit_ne {id i : Nat} {K : St → Prop} (hne : i ≠ id) (h : Q (.exit i) σ) : blk id K Q (.exit i) σ := by simpa [blk, hne] using h
theorem blk_ret {id : Nat} {K : St → Prop} (h : Q .ret σ) : blk id K Q .ret σ := h

theorem aw_loop {ι : Type} (I : ι → St → Prop) (m : ι → Nat) (i₀ : ι) (h₀ : I i₀ σ)
    (round : ∀ i s, I i s → AW C c (fun e s' => match e with | .normal => ∃ j, m j < m i ∧ I j s' | e => Q e s') s) : AW C (.loop c) Q σ := by
  intro a w hr b k cs hro hb hroom
  have key : ∀ n i s a w, m i = n → I i s → Rel C s a w →
      ∃ e a' w', (∃ σ', Q e σ' ∧ Rel C σ' a' w') ∧ ArrivesIn (Machine.fenced C.P (fz C.ro)) C.P (lone (b.atR a (.code c :: .inLoop c :: k)) cs w) b k cs e a' w' := by
    intro n
    induction n using Nat.strongRecOn with
    | _ n ih =>
      intro i s a w hn hI hr
      obtain ⟨e, a₁, w₁, ⟨s₁, hq, hr₁⟩, harr⟩ := round i s hI a w hr b (.inLoop c :: k) cs hro hb hroom
      cases e with
      | normal =>
        obtain ⟨j, hlt, hI₁⟩ := hq
        obtain ⟨e₂, a₂, w₂, hq₂, harr₂⟩ := ih (m j) (hn ▸ hlt) j s₁ a₁ w₁ rfl hI₁ hr₁
        exact ⟨e₂, a₂, w₂, hq₂, .of_steps (StepsIn.trans harr (.one (fenced_calm hb hroom rfl) stepR_inLoop)) harr₂⟩
      | exit id => exact ⟨_, a₁, w₁, ⟨s₁, hq, hr₁⟩, .pass (x := .inLoop c) rfl (fun _ _ => .inl (by simp)) harr⟩
      | goto l => exact ⟨_, a₁, w₁, ⟨s₁, hq, hr₁⟩, .pass (x := .inLoop c) rfl (fun _ _ => .inl (by simp)) harr⟩
      | ret => exact ⟨_, a₁, w₁, ⟨s₁, hq, hr₁⟩, .pass (x := .inLoop c) rfl (fun _ _ => .inl (by simp)) harr⟩
      | panic ch => exact ⟨_, a₁, w₁, ⟨s₁, hq, hr₁⟩, .pass (x := .inLoop c) rfl (fun _ _ => .inl (by simp)) harr⟩
      | outgrown => exact ⟨_, a₁, w₁, ⟨s₁, hq, hr₁⟩, .pass (x := .inLoop c) rfl (fun _ _ => .inl (by simp)) harr⟩
  obtain ⟨e, a', w', hq, harr⟩ := key _ i₀ σ a w rfl h₀ hr
  exact ⟨e, a', w', hq, .of_steps (.one (fenced_calm hb hroom rfl) stepR_loop) harr⟩

/-- a loop in a block of its own, code behind it -/
theorem aws_loop {ι : Type} {id : Nat} (I : ι → St → Prop) (m : ι → Nat) (i₀ : ι) (h₀ : I i₀ σ)
    (round : ∀ i s, I i s → AWs C [c] (fun e s' => match e with | .normal => ∃ j, m j < m i ∧ I j s' | e => blk id (AWs C k Q) Q e s') s) : AWs C (.block id (.loop c) :: k) Q σ :=
  aws_block (aw_mono (aw_loop (Q := blk id (AWs C k Q) Q) I m i₀ h₀ fun i s hI => aw_mono (aws_one (round i s hI)) fun e s' q => by cases e <;> exact q) fun e s' q => by cases e <;> exact q)

theorem aws_cond {cd : Operand} {t : Bool} (hc : ∀ G a w, RelG C σ a w G → a.eval cd = .bool t) (ht : t = true → AWs C (x :: k) Q σ) (hf : t = false → AWs C (y :: k) Q σ) :
    AWs C (.cond cd x y :: k) Q σ := by
  intro a w hr
  obtain ⟨G, hG⟩ := hr
  refine wpIn_cond_split (hc G a w hG) (fun h => ?_) (fun h => ?_)
  · exact ht h a w ⟨G, hG⟩
  · exact hf h a w ⟨G, hG⟩

end rules
end Go.Aw
