/- THE ABSTRACT WALK, part 14: what is read of plain arguments, type by type; a law's statement out of its contract. Nothing here speaks of a program. -/
import Derived.Test.YtbhcdkhejgkhaaaCoreO
import Derived.Test.YtbhcdkhejgkhaaaCoreM
import Derived.ProofKit
import Derived.OpenShut
import Derived.ChangeOld
import Derived.Below
import Derived.Carry
namespace Go.Aw
open Go Go.RowKit
set_option linter.unusedVariables false
set_option linter.unusedSimpArgs false

/-- the world as it is, all its blocks staying -/
def whole (w : World) : Wd := ⟨w, fun b => b < w.heap.size⟩

/-- Whatever reads as a plain datum of type T is one of these, cell by cell. -/
def Reads (P : Program) (T : TypeId) (α : Type) (row : α → List PVal) (ok : α → Prop) : Prop :=
  ∀ (H : Type) (enc : TypeId × Value → H) (w : World) (fuel : Nat) (cs : List Value) (x : DataW H × List MemPlace),
    DataW.trod enc P w 0 (fun _ => true) true fuel T cs = some x → ∃ a, ok a ∧ All2 (fun p c => p.holds (whole w) c) (row a) cs

theorem Reads.imp {P : Program} {T : TypeId} {α β : Type} {row : α → List PVal} {ok : α → Prop} (h : Reads P T α row ok) {row' : β → List PVal} {ok' : β → Prop} (f : α → β) (h1 : ∀ a, row' (f a) = row a) (h2 : ∀ a, ok a → ok' (f a)) : Reads P T β row' ok' :=
  fun H enc w fuel cs x hx => by
    obtain ⟨a, ha, hh⟩ := h H enc w fuel cs x hx
    exact ⟨f a, h2 a ha, by rw [h1]; exact hh⟩

theorem reads_bool {P : Program} {T : TypeId} {sz by_ : Nat} (hT : TI P T .bool sz by_) : Reads P T Bool (fun b => [.b b]) (fun _ => True) := by
  intro H enc w fuel cs x h
  obtain ⟨d, hd, hk⟩ := hT.undd
  cases d <;> simp [TK.of] at hk
  cases fuel with
  | zero => simp [DataW.trod] at h
  | succ f =>
    simp only [DataW.trod, hd] at h
    split at h <;> try (first | (simp at h; done) | (exfalso; simp_all; done))
    rename_i b _
    exact ⟨b, trivial, .cons ⟨rfl, rfl⟩ .nil⟩

theorem reads_int {P : Program} {T : TypeId} {k : IntKind} {sz by_ : Nat} (hT : TI P T (.int k) sz by_) : Reads P T Int (fun n => [.k k n]) (fun n => k.min ≤ n ∧ n ≤ k.max) := by
  intro H enc w fuel cs x h
  obtain ⟨d, hd, hk⟩ := hT.undd
  cases d <;> simp [TK.of] at hk
  subst hk
  cases fuel with
  | zero => simp [DataW.trod] at h
  | succ f =>
    simp only [DataW.trod, hd] at h
    split at h <;> try (first | (simp at h; done) | (exfalso; simp_all; done))
    rename_i k' k'' n he
    simp only [Option.some.injEq, TypeDesc.int.injEq] at he
    subst he
    split at h
    · rename_i hw
      obtain ⟨rfl, hw⟩ := hw
      exact ⟨n, by simpa [Lit.wf] using hw, .cons ⟨rfl, rfl⟩ .nil⟩
    · simp at h

theorem reads_string {P : Program} {T : TypeId} {sz by_ : Nat} (hT : TI P T .string sz by_) : Reads P T ByteArray (fun s => [.v (.string s)]) (fun s => s.size ≤ maxLen) := by
  intro H enc w fuel cs x h
  obtain ⟨d, hd, hk⟩ := hT.undd
  cases d <;> simp [TK.of] at hk
  cases fuel with
  | zero => simp [DataW.trod] at h
  | succ f =>
    simp only [DataW.trod, hd] at h
    split at h <;> simp_all
    rename_i s
    exact ⟨s, h.1, .cons ⟨rfl, rfl⟩ .nil⟩

theorem All2.app_inv {α β : Type} {R : α → β → Prop} {l l' : List α} {m m' : List β} (h : All2 R (l ++ l') (m ++ m')) (hl : l.length = m.length) : All2 R l m ∧ All2 R l' m' := by
  have h1 := h.take l.length
  have h2 := h.drop l.length
  rw [List.take_left, hl, List.take_left] at h1
  rw [List.drop_left, hl, List.drop_left] at h2
  exact ⟨h1, h2⟩

/-- the elements, one behind the other -/
theorem reads_many {P : Program} {e : TypeId} {α : Type} {row : α → List PVal} {ok : α → Prop} (he : Reads P e α row ok) {H : Type} {enc : TypeId × Value → H} {w : World} {fuel es : Nat} {cellsAt : Nat → Option (List Value)} (hlen : ∀ i cs, cellsAt i = some cs → cs.length = es) :
    ∀ (is : List Nat) (xs : List (DataW H × List MemPlace)), is.mapM (fun i => (cellsAt i).bind (DataW.trod enc P w 0 (fun _ => true) true fuel e)) = some xs →
      ∃ l : List α, l.length = is.length ∧ (∀ a ∈ l, ok a) ∧ ∀ (k : Nat) a i, l[k]? = some a → is[k]? = some i → (row a).length = es ∧ ∃ cs, cellsAt i = some cs ∧ All2 (fun p c => p.holds (whole w) c) (row a) cs
  | [], xs, h => ⟨[], rfl, by simp, by simp⟩
  | i :: is, xs, h => by
    simp only [List.mapM_cons] at h
    cases hc : cellsAt i with
    | none => simp [hc] at h
    | some cs =>
      cases ht : DataW.trod enc P w 0 (fun _ => true) true fuel e cs with
      | none => simp [hc, ht] at h
      | some x =>
        cases hm : is.mapM (fun i => (cellsAt i).bind (DataW.trod enc P w 0 (fun _ => true) true fuel e)) with
        | none => simp [hc, ht, hm] at h
        | some ys =>
          obtain ⟨a, ha, hh⟩ := he H enc w fuel cs x ht
          obtain ⟨l, h1, h2, h3⟩ := reads_many he hlen is ys hm
          refine ⟨a :: l, by simp [h1], by intro b hb; simp at hb; rcases hb with rfl | hb; exact ha; exact h2 b hb, fun k b j hb hj => ?_⟩
          cases k with
          | zero => simp at hb hj; subst hb; subst hj; exact ⟨hh.1.trans (hlen _ _ hc), cs, hc, hh⟩
          | succ k => exact h3 k b j (by simpa using hb) (by simpa using hj)

theorem cells_row {w : World} {a : Addr} {n : Nat} {cs : List Value} (h : w.cells? 0 a n = some cs) : cs.length = n ∧ ∀ (j : Nat) c, cs[j]? = some c → w.cell? (a.add j) = some c := by
  simp only [World.cells?, Nat.zero_le, if_true] at h
  have key : ∀ (is : List Nat) (cs : List Value), is.mapM (fun i => w.cell? (a.add i)) = some cs → cs.length = is.length ∧ ∀ (j : Nat) c i, cs[j]? = some c → is[j]? = some i → w.cell? (a.add i) = some c := by
    intro is
    induction is with
    | nil => intro cs h; simp at h; subst h; simp
    | cons i is ih =>
      intro cs h
      simp only [List.mapM_cons] at h
      cases hc : w.cell? (a.add i) with
      | none => simp [hc] at h
      | some c =>
        cases hm : is.mapM (fun i => w.cell? (a.add i)) with
        | none => simp [hc, hm] at h
        | some ds =>
          simp [hc, hm] at h
          subst h
          obtain ⟨h1, h2⟩ := ih ds hm
          refine ⟨by simp [h1], fun j d k hd hk => ?_⟩
          cases j with
          | zero => simp at hd hk; subst hd; subst hk; exact hc
          | succ j => exact h2 j d k (by simpa using hd) (by simpa using hk)
  obtain ⟨h1, h2⟩ := key _ _ h
  refine ⟨by simpa using h1, fun j c hc => ?_⟩
  have hj : j < n := by have := (List.getElem?_eq_some_iff.1 hc).1; simp at h1; omega
  exact h2 j c j hc (by simp [hj])

/-- a cell lies in a row of cells -/
theorem cell_in {w : World} {a : Addr} {c : Value} (h : w.cell? a = some c) : a.spot = none ∧ ∃ cs ty fr, w.heap[a.block]? = some (.cells cs ty fr) ∧ cs[a.off]? = some c := by
  unfold World.cell? at h
  split at h
  · rename_i cs ty fr hg
    cases hs : a.spot with
    | none => simp [hs] at h; exact ⟨rfl, cs, ty, fr, hg, h⟩
    | some q => simp [hs] at h
  · cases h
theorem add_add (a : Addr) (i j : Nat) : (a.add i).add j = a.add (i + j) := by
  unfold Addr.add
  by_cases hi : i = 0
  · simp [hi]
  · by_cases hj : j = 0 <;> simp [hi, hj] <;> omega
theorem add_block (a : Addr) (i : Nat) : (a.add i).block = a.block := by unfold Addr.add; split <;> rfl
theorem add_off (a : Addr) (i : Nat) : (a.add i).off = a.off + i := by unfold Addr.add; split <;> simp_all
theorem cellsOf_of {P : Program} {T : TypeId} {k : TK} {sz by_ : Nat} (hT : TI P T k sz by_) : P.cellsOf T = sz := by
  obtain ⟨i, hi, hs, _⟩ := hT.infoo
  simp [Program.cellsOf, hi, hs]

theorem reads_slice {P : Program} {T e : TypeId} {sz by_ : Nat} (hT : TI P T (.slice e) sz by_) {ke : TK} {es be : Nat} (hE : TI P e ke es be) (h0 : 0 < es) {α : Type} {row : α → List PVal} {ok : α → Prop} (he : Reads P e α row ok) :
    Reads P T (List α) (fun l => [.sl es (l.map row) false]) (fun l => l.length ≤ maxLen ∧ ∀ a ∈ l, ok a) := by
  intro H enc w fuel cs x h
  obtain ⟨d, hd, hk⟩ := hT.undd
  cases d <;> simp [TK.of] at hk
  subst hk
  rename_i e
  have hc := cellsOf_of hE
  cases fuel with
  | zero => simp [DataW.trod] at h
  | succ f =>
    simp only [DataW.trod, hd] at h
    split at h <;> try (first | (simp_all; done) | (exfalso; simp_all; done))
    · rename_i e' he'
      simp only [Option.some.injEq, TypeDesc.slice.injEq] at he'
      refine ⟨[], by simp, .cons ⟨none, 0, rfl, Nat.le_refl _, by simp [maxLen], by simp, rfl, rfl⟩ .nil⟩
    · rename_i e' a len cap he'
      simp only [Option.some.injEq, TypeDesc.slice.injEq] at he'
      subst he'
      split at h
      · rename_i hb
        cases hm : (List.range len).mapM (fun i => (w.cells? 0 (a.add (i * P.cellsOf e)) (P.cellsOf e)).bind (DataW.trod enc P w 0 (fun _ => true) true f e)) with
        | none => simp [hm] at h
        | some elems =>
          rw [hc] at hm
          obtain ⟨l, h1, h2, h3⟩ := reads_many he (es := es) (cellsAt := fun i => w.cells? 0 (a.add (i * es)) es) (fun i cs hcs => (cells_row hcs).1) _ _ hm
          simp only [List.length_range] at h1
          have hread : ∀ (i : Nat) row', (l.map row)[i]? = some row' → row'.length = es ∧ ∀ (j : Nat) p, row'[j]? = some p → ∃ c, w.cell? (a.add (i * es + j)) = some c ∧ p.holds (whole w) c := by
            intro i row' hr
            rw [List.getElem?_map] at hr
            cases hli : l[i]? with
            | none => rw [hli] at hr; cases hr
            | some b =>
              rw [hli] at hr; simp at hr; subst hr
              have hil : i < len := by rw [← h1]; exact (List.getElem?_eq_some_iff.1 hli).1
              obtain ⟨k1, cs, k2, k3⟩ := h3 i b i hli (by simp [hil])
              obtain ⟨q1, q2⟩ := cells_row k2
              refine ⟨k1, fun j p hp => ?_⟩
              obtain ⟨c, hcj, hpc⟩ := k3.get hp
              exact ⟨c, by rw [← add_add]; exact q2 j c hcj, hpc⟩
          refine ⟨l, ⟨by omega, h2⟩, .cons ⟨some a, cap, by simp [h1], by simp [h1]; omega, by omega, by simp, ?_⟩ .nil⟩
          cases hl : l with
          | nil => exact .inl rfl
          | cons b l' =>
            right
            have h00 := hread 0 (row b) (by simp [hl])
            have hrow0 : ∃ p, (row b)[0]? = some p := ⟨(row b)[0]'(by rw [h00.1]; exact h0), by simp⟩
            obtain ⟨p0, hp0⟩ := hrow0
            obtain ⟨c0, hc0, _⟩ := h00.2 0 p0 hp0
            simp only [Nat.zero_mul, Nat.zero_add] at hc0
            have ha0 : a.add 0 = a := by simp [Addr.add]
            rw [ha0] at hc0
            obtain ⟨hs, cs, ty, fr, hg, _⟩ := cell_in hc0
            have hblk : a.block < w.heap.size := (Array.getElem?_eq_some_iff.1 hg).1
            refine ⟨hs, hblk, cs, ty, fr, hg, fun i row' hr => ?_⟩
            rw [← hl] at hr
            refine ⟨(hread i row' hr).1, fun j p hp => ?_⟩
            obtain ⟨c, hcc, hpc⟩ := (hread i row' hr).2 j p hp
            obtain ⟨_, cs', ty', fr', hg', hoff⟩ := cell_in hcc
            rw [add_block, hg] at hg'
            simp only [Option.some.injEq, Obj.cells.injEq] at hg'
            obtain ⟨rfl, _, _⟩ := hg'
            rw [add_off] at hoff
            exact ⟨c, by rw [← hoff]; congr 1; omega, hpc⟩
      · cases h

theorem All2.flat {α β : Type} {R : α → β → Prop} {es : Nat} : ∀ (rows : List (List α)) (cs : List β), cs.length = rows.length * es → (∀ (i : Nat) r, rows[i]? = some r → r.length = es ∧ All2 R r ((cs.drop (i * es)).take es)) → All2 R rows.flatten cs
  | [], cs, h, _ => by simp at h; subst h; exact .nil
  | r :: rows, cs, h, hr => by
    have h0 := hr 0 r rfl
    simp only [Nat.zero_mul, List.drop_zero] at h0
    have e : cs = cs.take es ++ cs.drop es := (List.take_append_drop es cs).symm
    rw [e, List.flatten_cons]
    refine h0.2.append (All2.flat (es := es) rows _ ?_ fun i r' hr' => ?_)
    · simp only [List.length_cons, Nat.add_mul, Nat.one_mul, List.length_drop] at *; omega
    · have := hr (i + 1) r' (by simpa using hr')
      rw [List.drop_drop]
      have e2 : es + i * es = (i + 1) * es := by rw [Nat.add_mul]; omega
      rw [e2]; exact this

theorem mapM_congr' {α β : Type} {f g : α → Option β} : ∀ {l : List α}, (∀ x ∈ l, f x = g x) → l.mapM f = l.mapM g
  | [], _ => rfl
  | x :: l, h => by
    simp only [List.mapM_cons]
    rw [h x (by simp), mapM_congr' (l := l) fun y hy => h y (by simp [hy])]

theorem reads_array {P : Program} {T e : TypeId} {n sz by_ : Nat} (hT : TI P T (.array n e) sz by_) {ke : TK} {es be : Nat} (hE : TI P e ke es be) (hs : sz = n * es) {α : Type} {row : α → List PVal} {ok : α → Prop} (he : Reads P e α row ok) :
    Reads P T (List α) (fun l => (l.map row).flatten) (fun l => l.length = n ∧ ∀ a ∈ l, ok a) := by
  intro H enc w fuel cs x h
  obtain ⟨d, hd, hk⟩ := hT.undd
  cases d <;> simp [TK.of] at hk
  obtain ⟨rfl, rfl⟩ := hk
  rename_i n e
  have hc := cellsOf_of hE
  have hc' := cellsOf_of hT
  cases fuel with
  | zero => simp [DataW.trod] at h
  | succ f =>
    simp only [DataW.trod, hd] at h
    split at h
    · rename_i hlen
      rw [hc'] at hlen
      rw [hc] at h
      cases hm : (List.range n).mapM (fun i => DataW.trod enc P w 0 (fun _ => true) true f e ((cs.drop (i * es)).take es)) with
      | none => simp [hm] at h
      | some xs =>
        obtain ⟨l, h1, h2, h3⟩ := reads_many he (es := es) (cellsAt := fun i => if i < n then some ((cs.drop (i * es)).take es) else none) (w := w) (enc := enc) (fuel := f) (fun i c hc => by
          split at hc
          · rename_i hi
            simp only [Option.some.injEq] at hc; subst hc
            have : (i + 1) * es ≤ n * es := Nat.mul_le_mul_right es hi
            simp only [List.length_take, List.length_drop, Nat.add_mul, Nat.one_mul] at *; omega
          · cases hc) (List.range n) xs (by
            rw [← hm]
            exact mapM_congr' fun i hi => by simp only [List.mem_range] at hi; simp [hi])
        simp only [List.length_range] at h1
        refine ⟨l, ⟨h1, h2⟩, All2.flat (es := es) _ _ (by simp [h1, hlen, hs]) fun i r hr => ?_⟩
        rw [List.getElem?_map] at hr
        cases hli : l[i]? with
        | none => rw [hli] at hr; cases hr
        | some b =>
          rw [hli] at hr; simp at hr; subst hr
          have hil : i < n := by rw [← h1]; exact (List.getElem?_eq_some_iff.1 hli).1
          obtain ⟨k1, c, k2, k3⟩ := h3 i b i hli (by simp [hil])
          simp only [hil, if_true, Option.some.injEq] at k2
          subst k2
          exact ⟨k1, k3⟩
    · cases h

/-- a struct's fields from a place on -/
def ReadsFs (P : Program) (sz off : Nat) (fs : List (Nat × TypeId)) (α : Type) (row : α → List PVal) (ok : α → Prop) : Prop :=
  ∀ (H : Type) (enc : TypeId × Value → H) (w : World) (fuel : Nat) (cs : List Value) (xs : List (DataW H × List MemPlace)), cs.length = sz →
    fs.mapM (fun f => DataW.trod enc P w 0 (fun _ => true) true fuel f.2 ((cs.drop f.1).take (P.cellsOf f.2))) = some xs → ∃ a, ok a ∧ All2 (fun p c => p.holds (whole w) c) (row a) (cs.drop off)
theorem readsFs_nil {P : Program} {sz off : Nat} (h : off = sz) : ReadsFs P sz off [] Unit (fun _ => []) (fun _ => True) := fun H enc w fuel cs xs hl hx =>
  ⟨(), trivial, by rw [List.drop_of_length_le (by omega)]; exact .nil⟩
theorem readsFs_cons {P : Program} {sz off T : Nat} {k : TK} {sf bf : Nat} (hT : TI P T k sf bf) {fs : List (Nat × TypeId)} {α β : Type} {row : α → List PVal} {ok : α → Prop} {row' : β → List PVal} {ok' : β → Prop} (h : Reads P T α row ok) (h' : ReadsFs P sz (off + sf) fs β row' ok') :
    ReadsFs P sz off ((off, T) :: fs) (α × β) (fun x => row x.1 ++ row' x.2) (fun x => ok x.1 ∧ ok' x.2) := by
  intro H enc w fuel cs xs hl hx
  simp only [List.mapM_cons, cellsOf_of hT] at hx
  cases h1 : DataW.trod enc P w 0 (fun _ => true) true fuel T ((cs.drop off).take sf) with
  | none => simp [h1] at hx
  | some x =>
    cases h2 : fs.mapM (fun f => DataW.trod enc P w 0 (fun _ => true) true fuel f.2 ((cs.drop f.1).take (P.cellsOf f.2))) with
    | none => simp [h1, h2] at hx
    | some ys =>
      obtain ⟨a, ha, hra⟩ := h H enc w fuel _ _ h1
      obtain ⟨b, hb, hrb⟩ := h' H enc w fuel cs ys hl h2
      refine ⟨(a, b), ⟨ha, hb⟩, ?_⟩
      have e : cs.drop off = (cs.drop off).take sf ++ cs.drop (off + sf) := by rw [← List.drop_drop]; exact (List.take_append_drop _ _).symm
      rw [e]; exact hra.append hrb
theorem reads_struct {P : Program} {T : TypeId} {fs : List (Nat × TypeId)} {sz by_ : Nat} (hT : TI P T (.struct fs) sz by_) {α : Type} {row : α → List PVal} {ok : α → Prop} (h : ReadsFs P sz 0 fs α row ok) : Reads P T α row ok := by
  intro H enc w fuel cs x hx
  obtain ⟨d, hd, hk⟩ := hT.undd
  cases d <;> simp [TK.of] at hk
  subst hk
  rename_i fs
  cases fuel with
  | zero => simp [DataW.trod] at hx
  | succ f =>
    simp only [DataW.trod, hd] at hx
    split at hx
    · rename_i hlen
      rw [cellsOf_of hT] at hlen
      cases hm : fs.toList.mapM (fun f_1 => DataW.trod enc P w 0 (fun _ => true) true f f_1.type ((cs.drop f_1.offset).take (P.cellsOf f_1.type))) with
      | none => simp [hm] at hx
      | some xs =>
        have := h H enc w f cs xs hlen (by rw [← hm, List.mapM_map]; rfl)
        simpa using this
    · cases hx

/-! ### An argument -/
/-- what is known of an argument whose cells are these -/
def argAV (agg : Bool) (row : List PVal) : AV := match agg, row with
  | true, row => .a (row.map .p)
  | false, [p] => .p p
  | false, _ => .un
theorem arg_holds {P : Program} {T : TypeId} {k : TK} {sz by_ : Nat} (hT : TI P T k sz by_) {α : Type} {row : α → List PVal} {ok : α → Prop} (hR : Reads P T α row ok) {w : World} {base : Nat} {v : Value} {H : Type} {enc : TypeId × Value → H} {d : DataW H} {ps : List MemPlace}
    (hok : Value.okWide P w .any base T v) (h : DataW.Trod enc P w 0 (fun _ => true) true T v d ps) : ∃ a, ok a ∧ (argAV k.agg (row a)).holds Mu.none (whole w) v := by
  obtain ⟨fuel, h⟩ := h
  obtain ⟨a, ha, hr⟩ := hR H enc w fuel _ _ h
  refine ⟨a, ha, ?_⟩
  obtain ⟨d', hd, hk⟩ := hT.undd
  cases hag : k.agg with
  | true =>
    have hv : ∃ cs, v = .agg cs := by
      unfold Value.okWide at hok
      subst hk
      cases d' <;> simp [TK.of, TK.agg] at hag
      all_goals (rw [hd] at hok; obtain ⟨cs, h1, _⟩ := hok; exact ⟨cs, h1⟩)
    obtain ⟨cs, rfl⟩ := hv
    refine ⟨cs.toList, by simp, ?_⟩
    have : (Value.agg cs).cells.toList = cs.toList := by simp [Value.cells]
    rw [this] at hr
    exact ⟨by simpa using hr.1, fun i c x hc hx => by
      rw [List.getElem?_map] at hc
      cases hp : (row a)[i]? with
      | none => rw [hp] at hc; cases hc
      | some p => rw [hp] at hc; simp at hc; subst hc; exact hr.2 i p x hp hx⟩
  | false =>
    by_cases hv : ∃ cs, v = .agg cs
    · obtain ⟨cs, rfl⟩ := hv
      exfalso
      unfold Value.okWide at hok
      subst hk
      cases d' <;> simp [TK.of, TK.agg] at hag <;> (rw [hd] at hok; simp [Cell.okWide, hd, Cell.ok] at hok)
    · have hc : v.cells.toList = [v] := by cases v <;> first | (exfalso; exact hv ⟨_, rfl⟩) | simp [Value.cells]
      rw [hc] at hr
      cases hrow : row a with
      | nil => rw [hrow] at hr; have := hr.1; simp at this
      | cons p l =>
        rw [hrow] at hr
        obtain ⟨c, m, e1, h1, h2⟩ := hr.cons_inv
        simp at e1
        obtain ⟨rfl, rfl⟩ := e1
        cases l with
        | nil => exact h1
        | cons q l => have := h2.1; simp at this

/-- arguments that were read, read again: below the old heap nothing has turned -/
theorem trodAll_again {H : Type} {enc : TypeId × Value → H} {P : Program} (hl : laidOutB P = true) {W W' : World} (hb : Below W.heap.size W W') : ∀ {ts : List TypeId} {vs : List Value} {ds : List (DataW H)} {ps : List MemPlace},
    ts.all (fun t => P.readableRec t && decide (t < P.types.size)) = true → DataW.TrodAll enc P W 0 (fun _ => true) true ts vs ds ps → DataW.TrodAll enc P W' 0 (fun b => decide (b < W.heap.size)) true ts vs ds ps
  | [], [], [], _, _, h => h
  | t :: ts, v :: vs, d :: ds, _, ht, ⟨p, q, h1, h2, h3⟩ => by
    simp only [List.all_cons, Bool.and_eq_true, decide_eq_true_eq] at ht
    refine ⟨p, q, Below.trod hl ht.1.1 ht.1.2 h1 hb ?_, trodAll_again hl hb (by simpa using ht.2) h2, h3⟩
    obtain ⟨m, hm⟩ := h1
    exact DataW.trod_lt m _ _ _ hm
  | [], _ :: _, _, _, _, h => h.elim
  | [], [], _ :: _, _, _, h => h.elim
  | _ :: _, [], _, _, _, h => h.elim
  | _ :: _, _ :: _, [], _, _, h => h.elim
/-- what a law's contract says of a call -/
theorem law_calls {P : Program} {f : FuncId} {args : List AV} (h : PCall P f args (.p (.b true))) {W : World} {vs : List Value} (ha : All2 (AV.holds Mu.none (whole W)) args vs) :
    Calls P f vs.toArray W fun e W' => e = .returned (.bool true) ∧ Below W.heap.size W W' := by
  refine (h W (fun b => b < W.heap.size) vs (fun b hb => hb) ha).mono ?_
  rintro e W' ⟨v, rfl, ⟨S', _, _, hr⟩, hb⟩
  obtain ⟨rfl, _⟩ := hr
  exact ⟨rfl, hb⟩
end Go.Aw
