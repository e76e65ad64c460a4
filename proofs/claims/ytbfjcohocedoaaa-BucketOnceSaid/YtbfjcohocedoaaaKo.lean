/- THE ABSTRACT WALK, part 30: a method's value; sync.Once's Do, as a contract on the object that holds the Once, out of a raw contract of Do and a contract of what is done. Nothing here speaks of a program. -/
import Derived.Test.YtbfjcohocedoaaaKx
namespace Go.Aw
open Go Go.RowKit
set_option linter.unusedVariables false
set_option linter.unusedSimpArgs false

/-- one step of the forms of code, but for a return and a body's end -/
theorem stpE {X Y : Prop} (h : Y) (e : Y → X := by
    first
      | exact rn_nil
      | exact rk_nil
      | exact aws_seq
      | exact aws_region
      | exact aws_skip
      | exact aws_label
      | exact aws_goto
      | exact aws_exit
      | exact aws_blk_s
      | exact aws_blk_r
      | exact aws_blk_c
      | exact blk_exit
      | exact blk_normal
      | exact blk_ret
      | fail) : X := e h
/-- a method's value -/
theorem lop_mfb {C : Ctx} {o : Oper} {σ : St} {f : FuncId} {x : Operand} {ob g off : Nat} (ho : o.op = .makeFunc (.func f) #[x] #[]) (hx : σ.look x = .o (.ptr ob g off)) (hd : dOk C o.dst = true) : LOp C o σ ⟨.o (.bm f ob g off), []⟩ (fun _ => false) :=
  lop_val hd fun τ a w G hl hm h => by
    obtain ⟨b, c, k1, k2⟩ := look_of h ((hl x (by simp [ho, Op.operands])).trans hx)
    exact ⟨.func (.func f) #[a.eval x] #[], by simp [execOp, ho, Instr.makeFunc], b, c, k1, by rw [k2]⟩

theorem setCell_heap {w : World} {b ty : Nat} {arr : Array Value} {fr : Nat × Nat} (h : w.heap[b]? = some (.cells arr ty fr)) (i : Nat) (v : Value) : (w.setCell ⟨b, i, none⟩ v).heap[b]? = some (.cells (arr.setIfInBounds i v) ty fr) := by
  simp only [World.setCell, Array.getElem?_modify, if_true, h, Option.map_some]
  simp
theorem setCell_other {w : World} {b i k : Nat} {v : Value} (h : k ≠ b) : (w.setCell ⟨b, i, none⟩ v).heap[k]? = w.heap[k]? := by
  simp only [World.setCell, Array.getElem?_modify]
  rw [if_neg (fun e => h e.symm)]
theorem All2.set {α β : Type} {R : α → β → Prop} {l : List α} {m : List β} (h : All2 R l m) (i : Nat) {a : α} {b : β} (hab : R a b) : All2 R (l.set i a) (m.set i b) := by
  refine ⟨by simp [h.1], fun j x y hx hy => ?_⟩
  rw [List.getElem?_set] at hx hy
  by_cases hij : i = j
  · subst hij
    rw [if_pos rfl] at hx hy
    split at hx
    · rw [if_pos (by rw [← h.1]; assumption)] at hy
      cases hx; cases hy; exact hab
    · cases hx
  · rw [if_neg hij] at hx hy
    exact h.2 j x y hx hy
/-- a cell of a variable -/
theorem cell_on {μ : Mu} {X : Wd} {w : World} {b ty i : Nat} {arr : List Value} {cs : List AC} {x : Value} (hh : w.heap[b]? = some (.cells arr.toArray ty (0, 0))) (ha : All2 (AC.holds μ X) cs arr) (hc : cs[i]? = some (.p (.v x))) : w.cell? ⟨b, i, none⟩ = some x ∧ w.frozen? ⟨b, i, none⟩ = false := by
  obtain ⟨v, hv, hx, _⟩ := ha.get hc
  refine ⟨?_, ?_⟩
  · simp only [World.cell?, hh]
    simp [hv, hx]
  · simp only [World.frozen?, hh]
    simp
/-- one cell of a variable turns -/
theorem ObjG.setBox {mem : Nat → Nat × Option MO} {w : World} {G : Gh} {o g ty b c i : Nat} {cs : List AC} {q : AC} {v : Value} (ho : ObjG mem w G) (hm : mem o = (g + 1, some (.box ty cs))) (hb : (G.μ o)[g]? = some (some b, c)) (hv : ∀ X, q.holds G.μ X v) :
    ObjG (fun x => if x = o then (g + 1, some (.box ty (cs.set i q))) else mem x) (w.setCell ⟨b, i, none⟩ v) G := by
  obtain ⟨g', m, e1, e2, b', arr, e3, e4, e5, e6⟩ := ho.mem o _ _ hm
  obtain rfl : g = g' := by omega
  rw [hb] at e2
  obtain rfl := Option.some.inj e2
  simp only [Option.some.injEq] at e3
  subst e3
  have hle : Wd.le ⟨w, G.S⟩ ⟨w.setCell ⟨b, i, none⟩ v, G.S⟩ := fun k hk => ⟨hk, setCell_other fun e => ho.stab o b (by rw [e4]; simp) (e ▸ hk)⟩
  exact {
    gens := fun x => by
      by_cases hx : x = o
      · subst hx; simpa [hm] using ho.gens x
      · simpa [hx] using ho.gens x
    mem := fun x n mo hx => by
      by_cases hxo : x = o
      · subst hxo
        simp only [if_true, Prod.mk.injEq, Option.some.injEq] at hx
        obtain ⟨rfl, rfl⟩ := hx
        refine ⟨g, _, rfl, hb, b, arr.set i v, rfl, e4, ?_, (e6.mono fun _ _ k => k.mono (Mu.le.refl _) hle).set i (hv _)⟩
        have := setCell_heap e5 i v
        simpa using this
      · simp only [hxo, if_false] at hx
        obtain ⟨g2, m2, h1, h2, h3⟩ := ho.mem x n mo hx
        exact ⟨g2, m2, h1, h2, h3.mono (Mu.le.refl _) hle fun k hk => setCell_other fun e => ho.apart x o k hxo hk (by rw [e, e4]; simp)⟩
    apart := ho.apart
    stab := ho.stab
    own := fun x k hk => by rw [World.size_setCell]; exact ho.own x k hk
    sbd := fun k hk => by rw [World.size_setCell]; exact ho.sbd k hk }
theorem ObjG.drew {mem : Nat → Nat × Option MO} {w : World} {G : Gh} (ho : ObjG mem w G) : ObjG mem w.drew G := {
  gens := ho.gens
  mem := fun x n mo hx => by
    obtain ⟨g2, m2, h1, h2, h3⟩ := ho.mem x n mo hx
    exact ⟨g2, m2, h1, h2, h3.mono (Mu.le.refl _) (fun b hb => ⟨hb, rfl⟩) fun _ _ => rfl⟩
  apart := ho.apart
  stab := ho.stab
  own := ho.own
  sbd := ho.sbd }
theorem memL_one {o : Nat} {m m' : Nat × Option MO} : (fun x => if x = o then m' else memL [(o, m)] x) = memL [(o, m')] := by
  funext x
  by_cases hx : x = o <;> simp [memL, hx]
/-- what Do is asked of: the Once's word and lock are free, and what is done leaves them so -/
def OnceRaw (P : Program) (D L i : Nat) : Prop := ∀ (b : Nat) (w : World) (R : World → Prop),
  w.cell? ⟨b, i, none⟩ = some (.int .u32 0) → w.cell? ⟨b, i + 1, none⟩ = some (.int .i32 0) → w.frozen? ⟨b, i, none⟩ = false → w.frozen? ⟨b, i + 1, none⟩ = false →
  Calls P L #[.pointer (some ⟨b, 0, none⟩)] (w.setCell ⟨b, i + 1, none⟩ (.int .i32 1)) (fun e w' => e = .returned (.tuple #[]) ∧ R w') →
  (∀ w', R w' → w'.cell? ⟨b, i, none⟩ = some (.int .u32 0) ∧ w'.cell? ⟨b, i + 1, none⟩ = some (.int .i32 1) ∧ w'.frozen? ⟨b, i, none⟩ = false ∧ w'.frozen? ⟨b, i + 1, none⟩ = false) →
  Calls P D #[.pointer (some ⟨b, i, none⟩), .func (.func L) #[.pointer (some ⟨b, 0, none⟩)] #[]] w fun e w' => e = .returned (.tuple #[]) ∧ ∃ w2, R w2 ∧ w' = (w2.drew.setCell ⟨b, i, none⟩ (.int .u32 1)).setCell ⟨b, i + 1, none⟩ (.int .i32 0)
theorem once_o {P : Program} {D L ty i q : Nat} {cs cs' : List AC} (raw : OnceRaw P D L i)
    (h0 : cs[i]? = some (.p (.k .u32 0))) (h1 : cs[i + 1]? = some (.p (.k .i32 0))) (h0' : cs'[i]? = some (.p (.k .u32 0))) (h1' : cs'[i + 1]? = some (.p (.k .i32 1)))
    (hL : OCall P L [.o (.ptr 1000 q 0)] (memL [(1000, (q + 1, some (.box ty (cs.set (i + 1) (.p (.k .i32 1))))))]) (.tup []) (memL [(1000, (q + 1, some (.box ty cs')))])) :
    OCall P D [.o (.ptr 1000 q i), .o (.bm L 1000 q 0)] (memL [(1000, (q + 1, some (.box ty cs)))]) (.tup []) (memL [(1000, (q + 1, some (.box ty ((cs'.set i (.p (.k .u32 1))).set (i + 1) (.p (.k .i32 0))))))]) := by
  intro w G vs ho ha
  obtain ⟨v0, vs1, rfl, ⟨b, c, p1, rfl⟩, ha1⟩ := ha.cons_inv
  obtain ⟨v1, vs2, rfl, ⟨b', c', p2, rfl⟩, ha2⟩ := ha1.cons_inv
  obtain rfl := ha2.nil_inv
  rw [p1] at p2
  simp only [Option.some.injEq, Prod.mk.injEq] at p2
  obtain ⟨rfl, rfl⟩ := p2
  have hm : memL [(1000, (q + 1, some (MO.box ty cs)))] 1000 = (q + 1, some (.box ty cs)) := rfl
  obtain ⟨g', m, e1, e2, b', arr, e3, e4, e5, e6⟩ := ho.mem 1000 _ _ hm
  obtain rfl : q = g' := by omega
  rw [p1] at e2
  obtain rfl := Option.some.inj e2
  simp only [Option.some.injEq] at e3
  subst e3
  have hb : b < w.heap.size := (Array.getElem?_eq_some_iff.1 e5).1
  have c0 := cell_on e5 e6 h0
  have c1 := cell_on e5 e6 h1
  have hk : ∀ (k : IntKind) (n : Int) X, (AC.p (.k k n)).holds G.μ X (.int k n) := fun k n X => ⟨rfl, rfl⟩
  have ho1 := ho.setBox (i := i + 1) hm p1 (hk .i32 1)
  rw [memL_one] at ho1
  refine (raw b w (fun w2 => ∃ G', ObjG (memL [(1000, (q + 1, some (.box ty cs')))]) w2 G' ∧ (∀ b, G.S b → G'.S b) ∧ (∀ b, G'.S b → G.S b ∨ w.heap.size ≤ b ∨ ∃ o, b ∈ G.φ o) ∧ (∀ o b, b ∈ G'.φ o → w.heap.size ≤ b ∨ ∃ o', b ∈ G.φ o') ∧
      G.μ.le G'.μ ∧ FrF (fun b => ∃ o, b ∈ G.φ o) w w2) c0.1 c1.1 c0.2 c1.2 ?_ ?_).mono ?_
  · refine (hL _ G [.pointer (some ⟨b, 0, none⟩)] ho1 (.cons ⟨b, c, p1, rfl⟩ .nil)).mono ?_
    rintro e w' ⟨v, G', rfl, hr, k1, k2, k3, k4, k5, k6⟩
    obtain ⟨l, rfl, hl⟩ := hr
    obtain rfl := hl.nil_inv
    rw [World.size_setCell] at k3 k4
    refine ⟨rfl, G', k1, k2, k3, k4, k5, ⟨k6.os, k6.tape.trans .same, k6.output, by have := k6.size; rwa [World.size_setCell] at this, fun k hk hf => ?_⟩⟩
    refine (k6.block k (by rw [World.size_setCell]; exact hk) hf).trans (setCell_other fun e => hf ⟨1000, by rw [e, e4]; simp⟩)
  · rintro w2 ⟨G', k1, _, _, _, k5, _⟩
    have p3 := k5 1000 q _ p1
    obtain ⟨g', m, q1, q2, b2, arr2, q3, q4, q5, q6⟩ := k1.mem 1000 _ _ rfl
    obtain rfl : q = g' := by omega
    rw [p3] at q2
    obtain rfl := Option.some.inj q2
    simp only [Option.some.injEq] at q3
    subst q3
    have c0 := cell_on q5 q6 h0'
    have c1 := cell_on q5 q6 h1'
    exact ⟨c0.1, c1.1, c0.2, c1.2⟩
  · rintro e w' ⟨rfl, w2, ⟨G', k1, k2, k3, k4, k5, k6⟩, rfl⟩
    have p3 := k5 1000 q _ p1
    have hk : ∀ (k : IntKind) (n : Int) X, (AC.p (.k k n)).holds G'.μ X (.int k n) := fun k n X => ⟨rfl, rfl⟩
    have o2 := (k1.drew).setBox (i := i) (g := q) (o := 1000) rfl p3 (hk .u32 1)
    rw [memL_one] at o2
    have o3 := o2.setBox (i := i + 1) (g := q) (o := 1000) rfl p3 (hk .i32 0)
    rw [memL_one] at o3
    refine ⟨.tuple #[], G', rfl, ⟨[], rfl, .nil⟩, o3, k2, k3, k4, k5, ⟨k6.os, ⟨k6.tape.eq, Nat.le_succ_of_le k6.tape.le⟩, k6.output, by simpa using k6.size, fun k hk' hf => ?_⟩⟩
    have hkb : k ≠ b := fun e => hf ⟨1000, by rw [e, e4]; simp⟩
    rw [setCell_other hkb, setCell_other hkb]
    exact k6.block k hk' hf
/-- done already: nothing turns -/
theorem once_done {P : Program} {D L ty i q : Nat} {cs : List AC} {d : Int} (raw : ∀ (a : Addr) (fv : Value) (w : World), w.cell? a = some (.int .u32 d) → Calls P D #[.pointer (some a), fv] w fun e w' => e = .returned (.tuple #[]) ∧ w' = w) (h0 : cs[i]? = some (.p (.k .u32 d))) :
    OCall P D [.o (.ptr 1000 q i), .o (.bm L 1000 q 0)] (memL [(1000, (q + 1, some (.box ty cs)))]) (.tup []) (memL [(1000, (q + 1, some (.box ty cs)))]) := by
  intro w G vs ho ha
  obtain ⟨v0, vs1, rfl, ⟨b, c, p1, rfl⟩, ha1⟩ := ha.cons_inv
  obtain ⟨v1, vs2, rfl, ⟨b', c', p2, rfl⟩, ha2⟩ := ha1.cons_inv
  obtain rfl := ha2.nil_inv
  obtain ⟨g', m, e1, e2, b', arr, e3, e4, e5, e6⟩ := ho.mem 1000 _ _ rfl
  obtain rfl : q = g' := by omega
  rw [p1] at e2
  obtain rfl := Option.some.inj e2
  simp only [Option.some.injEq] at e3
  subst e3
  have c0 := cell_on e5 e6 h0
  refine (raw ⟨b, i, none⟩ _ w c0.1).mono ?_
  rintro e w' ⟨rfl, rfl⟩
  exact ⟨.tuple #[], G, rfl, ⟨[], rfl, .nil⟩, ho, fun _ h => h, fun _ h => .inl h, fun o _ h => .inr ⟨o, h⟩, Mu.le.refl _, ⟨rfl, .same, rfl, Nat.le_refl _, fun _ _ _ => rfl⟩⟩
/-- what is known of an object, said in other words -/
theorem RelG.mem' {C : Ctx} {σ : St} {a : Act} {w : World} {G : Gh} (h : RelG C σ a w G) {o n : Nat} {mo mo' : MO} (hm : σ.mem o = (n, some mo)) (hh : ∀ μ X m fp, mo.holds μ X m fp → (μ o).length = n → (∀ g, n = g + 1 → (μ o)[g]? = some m) → mo'.holds μ X m fp) : ∃ G', RelG C (σ.put o (n, some mo')) a w G' := by
  have hlen : (G.μ o).length = n := by have := h.gens o; rw [hm] at this; exact this
  obtain ⟨g', m, hg, hmm, hx⟩ := h.mem o _ _ hm
  have eμ : (fun x => if x = o then G.μ o else G.μ x) = G.μ := by funext x; split <;> simp_all
  refine ⟨_, h.upd (o := o) (n' := n) (mo' := some mo') (μo := G.μ o) (fp' := G.φ o) (w' := w) (fun g x hx => hx) hlen rfl .same rfl (Nat.le_refl _) (fun _ _ _ => rfl) (fun b hb => ⟨.inl hb, (h.own o b hb).2⟩) (fun mo1 hmo => ?_)⟩
  obtain rfl := Option.some.inj hmo
  refine ⟨g', m, hg, hmm, ?_⟩
  rw [eμ]
  exact hh _ _ _ _ hx hlen fun g hgn => by obtain rfl : g' = g := by omega
                                           exact hmm
theorem says_mem {C : Ctx} {σ : St} {o n : Nat} {mo mo' : MO} (hm : σ.mem o = (n, some mo)) (hh : ∀ μ X m fp, mo.holds μ X m fp → mo'.holds μ X m fp) : Says C σ (σ.put o (n, some mo')) := by
  rintro a w ⟨G, h⟩
  exact h.mem' hm fun μ X m fp k _ _ => hh μ X m fp k
/-- one of several -/
theorem aws_cases {C : Ctx} {σ : St} {k : List Code} {Q : Exit → St → Prop} {o n : Nat} {mo : MO} {ι : Type} (f : ι → MO) (hm : σ.mem o = (n, some mo)) (hh : ∀ μ X m fp, mo.holds μ X m fp → ∃ i, (f i).holds μ X m fp) {c : Code} (h : ∀ i, AWs C (c :: k) Q (σ.put o (n, some (f i)))) : AWs C (c :: k) Q σ := by
  intro a w ⟨G, hr⟩
  obtain ⟨g', m, hg, hmm, hx⟩ := hr.mem o _ _ hm
  obtain ⟨i, hi⟩ := hh _ _ _ _ hx
  have hlen : (G.μ o).length = n := by have := hr.gens o; rw [hm] at this; exact this
  have eμ : (fun x => if x = o then G.μ o else G.μ x) = G.μ := by funext x; split <;> simp_all
  refine h i a w ⟨_, hr.upd (o := o) (n' := n) (mo' := some (f i)) (μo := G.μ o) (fp' := G.φ o) (w' := w) (fun g x hx => hx) hlen rfl .same rfl (Nat.le_refl _) (fun _ _ _ => rfl) (fun b hb => ⟨.inl hb, (hr.own o b hb).2⟩) (fun mo1 hmo => ?_)⟩
  obtain rfl := Option.some.inj hmo
  refine ⟨g', m, hg, hmm, ?_⟩
  rw [eμ]
  exact hi
/-- variables' cells, of several kinds, as one object -/
def orA {ι : Type} (ty : TypeId) (cs : ι → List PVal) : AObj where
  holds X b fp := ∃ i arr, fp = [b] ∧ X.w.heap[b]? = some (.cells (List.toArray arr) ty (0, 0)) ∧ All2 (fun p x => p.holds X x) (cs i) arr
  mono := by
    rintro x y b fp hle hf ⟨i, arr, rfl, h1, h2⟩
    exact ⟨i, arr, rfl, (hf b (by simp)).trans h1, h2.mono fun p _ k => p.mono hle k⟩
theorem says_or {C : Ctx} {σ : St} {o n ty : Nat} {ι : Type} (cs : ι → List PVal) (i : ι) (hm : σ.mem o = (n, some (.box ty ((cs i).map .p)))) : Says C σ (σ.put o (n, some (.abs (orA ty cs)))) :=
  says_mem hm fun μ X m fp ⟨b, arr, h1, h2, h3, h4⟩ => ⟨b, h1, i, arr, h2, h3, all2_ac.1 h4⟩
theorem aws_or {C : Ctx} {σ : St} {k : List Code} {Q : Exit → St → Prop} {o n ty : Nat} {ι : Type} {cs : ι → List PVal} {c : Code} (hm : σ.mem o = (n, some (.abs (orA ty cs)))) (h : ∀ i, AWs C (c :: k) Q (σ.put o (n, some (.box ty ((cs i).map .p))))) : AWs C (c :: k) Q σ :=
  aws_cases (fun i => .box ty ((cs i).map .p)) hm (fun μ X m fp ⟨b, h1, i, arr, h2, h3, h4⟩ => ⟨i, b, arr, h1, h2, h3, all2_ac.2 h4⟩) h
end Go.Aw
