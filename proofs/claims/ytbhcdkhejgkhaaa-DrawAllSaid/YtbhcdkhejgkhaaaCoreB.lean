/- THE ABSTRACT WALK, part 2: how a state goes on; operations; regions, drawn or not; contracts and calls. Nothing here speaks of a program. -/
import Derived.Test.YtbhcdkhejgkhaaaCore
namespace Go.Aw
open Go Go.RowKit
set_option linter.unusedVariables false
set_option linter.unusedSimpArgs false

def dOk (C : Ctx) (d : Option Nat) : Bool := match d with | none => true | some d => Nat.ble (d + 1) C.N

section upd
variable {C : Ctx} {σ : St} {a : Act} {w w' : World} {G : Gh}

theorem RelG.setv (h : RelG C σ a w G) {d : Option Nat} {val : AV} {v : Value} (hd : dOk C d = true) (hv : val.holds G.μ ⟨w, G.S⟩ v) : RelG C (σ.set d val) (a.put d v) w G := by
  cases d with
  | none => exact h
  | some d =>
    have hdn : d < a.tmps.size := by rw [h.size]; have := Nat.le_of_ble_eq_true hd; omega
    exact { h with
      size := by simp [Act.put, h.size]
      env := fun t => by
        simp only [St.set, Act.put]
        by_cases ht : t = d
        · subst ht; simpa [hdn] using hv
        · have := h.env t
          simp only [ht, if_false]
          have e : (a.tmps.setIfInBounds d v).getD t undef = a.tmps.getD t undef := by
            simp [Array.getElem?_setIfInBounds_ne (fun e => ht e.symm)]
          rw [e]; exact this }

/-- old blocks as they were -/
structure Quiet (w w' : World) : Prop where
  os : w'.os = w.os
  tape : w'.tape = w.tape
  output : w'.output = w.output
  size : w.heap.size ≤ w'.heap.size
  block : ∀ k, k < w.heap.size → w'.heap[k]? = w.heap[k]?
theorem Quiet.refl (w : World) : Quiet w w := ⟨rfl, rfl, rfl, Nat.le_refl _, fun _ _ => rfl⟩
theorem Quiet.drew (w : World) : Quiet w w.drew := ⟨rfl, rfl, rfl, Nat.le_refl _, fun _ _ => rfl⟩
theorem Quiet.of_below (h : Below w.heap.size w w') : Quiet w w' := ⟨h.os, h.tape, h.output, h.size, h.block⟩
theorem Quiet.alloc (w : World) (o : Obj) : Quiet w (w.alloc o) := ⟨rfl, rfl, rfl, by simp, fun k hk => Below.heap_alloc w o k hk⟩

theorem RelG.wle (h : RelG C σ a w G) {S' : Nat → Prop} (hs : ∀ b, G.S b → S' b) (hb : ∀ k, k < w.heap.size → G.S k → w'.heap[k]? = w.heap[k]?) : Wd.le ⟨w, G.S⟩ ⟨w', S'⟩ :=
  fun b hb' => ⟨hs b hb', hb b (h.sbd b hb').1 hb'⟩

/-- the world grows; some of the new blocks stay as they are -/
theorem RelG.world (h : RelG C σ a w G) (hw : Quiet w w') (T : Nat → Prop) (hT : ∀ b, T b → w.heap.size ≤ b ∧ b < w'.heap.size) :
    RelG C σ a w' { G with S := fun b => G.S b ∨ T b } := by
  have hle : Wd.le ⟨w, G.S⟩ ⟨w', fun b => G.S b ∨ T b⟩ := h.wle (fun _ => .inl) (fun k hk _ => hw.block k hk)
  exact {
    size := h.size
    defers := fun d hd => by
      obtain ⟨b, rfl, h1, h2, h3, h4, h5⟩ := h.defers d hd
      exact ⟨b, rfl, h1, Nat.lt_of_lt_of_le h2 hw.size, (hw.block b h2).trans h3, fun hs => hs.elim h4 fun ht => absurd (hT b ht).1 (by omega), h5⟩
    dnod := h.dnod
    mle := h.mle
    env := fun t => (h.env t).mono (Mu.le.refl _) hle
    gens := h.gens
    mem := fun o n mo ho => by
      obtain ⟨g, m, hn, hm, hh⟩ := h.mem o n mo ho
      exact ⟨g, m, hn, hm, hh.mono (Mu.le.refl _) hle fun k hk => hw.block k (h.own o k hk).2⟩
    apart := h.apart
    stab := fun o b hb hs => by
      rcases hs with hs | hs
      · exact h.stab o b hb hs
      · have := (h.own o b hb).2; have := (hT b hs).1; omega
    own := fun o b hb => ⟨(h.own o b hb).1, Nat.lt_of_lt_of_le (h.own o b hb).2 hw.size⟩
    sbd := fun b hb => by
      rcases hb with hb | hb
      · exact ⟨Nat.lt_of_lt_of_le (h.sbd b hb).1 hw.size, (h.sbd b hb).2⟩
      · exact ⟨(hT b hb).2, .inr (.inl (Nat.le_trans h.fr.size (hT b hb).1))⟩
    ssub := fun b hb => .inl (h.ssub b hb)
    fr := ⟨hw.os.trans h.fr.os, hw.tape.trans h.fr.tape, hw.output.trans h.fr.output, Nat.le_trans h.fr.size hw.size, fun k hk hf => (hw.block k (Nat.lt_of_lt_of_le hk h.fr.size)).trans (h.fr.block k hk hf)⟩ }

theorem RelG.world' (h : RelG C σ a w G) (hw : Quiet w w') : RelG C σ a w' G := by
  have := h.world hw (fun _ => False) (fun _ h => h.elim)
  have e : (fun b => G.S b ∨ False) = G.S := by funext b; simp
  simpa [e] using this

/-- one object's content turns: its old blocks and new ones may be written -/
theorem RelG.upd (h : RelG C σ a w G) {o n' : Nat} {mo' : Option MO} {μo : List (Option Nat × Nat)} {fp' : List Nat}
    (hμ : ∀ (g : Nat) x, (G.μ o)[g]? = some x → μo[g]? = some x) (hlen : μo.length = n')
    (hos : w'.os = w.os) (htp : w'.tape = w.tape) (hout : w'.output = w.output) (hsz : w.heap.size ≤ w'.heap.size)
    (hblk : ∀ k, k < w.heap.size → k ∉ G.φ o → w'.heap[k]? = w.heap[k]?)
    (hfp : ∀ b, b ∈ fp' → (b ∈ G.φ o ∨ w.heap.size ≤ b) ∧ b < w'.heap.size)
    (hmo : ∀ mo, mo' = some mo → ∃ g m, n' = g + 1 ∧ μo[g]? = some m ∧ mo.holds (fun x => if x = o then μo else G.μ x) ⟨w', G.S⟩ m fp') :
    RelG C (σ.put o (n', mo')) a w' ⟨fun x => if x = o then μo else G.μ x, G.S, fun x => if x = o then fp' else G.φ x⟩ := by
  have hmu : G.μ.le (fun x => if x = o then μo else G.μ x) := fun x g y hy => by
    by_cases hx : x = o
    · subst hx; simpa using hμ g y hy
    · simpa [hx] using hy
  have hle : Wd.le ⟨w, G.S⟩ ⟨w', G.S⟩ := h.wle (fun _ hb => hb) (fun k hk hs => hblk k hk fun hin => h.stab o k hin hs)
  exact {
    size := h.size
    defers := fun d hd => by
      obtain ⟨b, rfl, h1, h2, h3, h4, h5⟩ := h.defers d hd
      refine ⟨b, rfl, h1, Nat.lt_of_lt_of_le h2 hsz, (hblk b h2 (h5 o)).trans h3, h4, fun x hx => ?_⟩
      by_cases hxo : x = o <;> simp only [hxo, if_true, if_false] at hx
      · rcases (hfp b hx).1 with hb | hb
        · exact h5 o hb
        · omega
      · exact h5 x hx
    dnod := h.dnod
    mle := h.mle.trans hmu
    env := fun t => (h.env t).mono hmu hle
    gens := fun x => by
      by_cases hx : x = o
      · subst hx; simpa [St.put] using hlen
      · simpa [St.put, hx] using h.gens x
    mem := fun x n mo hx => by
      by_cases hxo : x = o
      · subst hxo
        simp only [St.put, if_true, Prod.mk.injEq] at hx
        obtain ⟨rfl, hx⟩ := hx
        simpa using hmo mo hx
      · simp only [St.put, hxo, if_false] at hx
        obtain ⟨g, m, hn, hm, hh⟩ := h.mem x n mo hx
        refine ⟨g, m, hn, by simpa [hxo] using hm, ?_⟩
        simp only [hxo, if_false]
        exact hh.mono hmu hle fun k hk => hblk k (h.own x k hk).2 fun hin => h.apart x o k hxo hk hin
    apart := fun x y b hxy hbx hby => by
      by_cases hx : x = o <;> by_cases hy : y = o <;> simp only [hx, hy, if_true, if_false] at hbx hby
      · exact hxy (hx.trans hy.symm)
      · rcases (hfp b hbx).1 with hb | hb
        · exact h.apart o y b (fun e => hy e.symm) hb hby
        · have := (h.own y b hby).2; omega
      · rcases (hfp b hby).1 with hb | hb
        · exact h.apart x o b hx hbx hb
        · have := (h.own x b hbx).2; omega
      · exact h.apart x y b hxy hbx hby
    stab := fun x b hb hs => by
      by_cases hx : x = o <;> simp only [hx, if_true, if_false] at hb
      · rcases (hfp b hb).1 with hb' | hb'
        · exact h.stab o b hb' hs
        · have := (h.sbd b hs).1; omega
      · exact h.stab x b hb hs
    own := fun x b hb => by
      by_cases hx : x = o <;> simp only [hx, if_true, if_false] at hb
      · refine ⟨?_, (hfp b hb).2⟩
        rcases (hfp b hb).1 with hb' | hb'
        · exact (h.own o b hb').1
        · exact .inl (Nat.le_trans h.fr.size hb')
      · exact ⟨(h.own x b hb).1, Nat.lt_of_lt_of_le (h.own x b hb).2 hsz⟩
    sbd := fun b hb => ⟨Nat.lt_of_lt_of_le (h.sbd b hb).1 hsz, (h.sbd b hb).2⟩
    ssub := h.ssub
    fr := ⟨hos.trans h.fr.os, htp.trans h.fr.tape, hout.trans h.fr.output, Nat.le_trans h.fr.size hsz, fun k hk hf => by
      refine (hblk k (Nat.lt_of_lt_of_le hk h.fr.size) fun hin => ?_).trans (h.fr.block k hk hf)
      rcases (h.own o k hin).1 with h1 | h1
      · omega
      · exact hf h1⟩ }

/-- an object is let go; its blocks stay as they are from now on -/
theorem RelG.freeze (h : RelG C σ a w G) {o n : Nat} {mo mo' : Option MO} (hm : σ.mem o = (n, mo))
    (hmo : ∀ x, mo' = some x → ∃ g m, n = g + 1 ∧ (G.μ o)[g]? = some m ∧ x.holds G.μ ⟨w, fun b => G.S b ∨ b ∈ G.φ o⟩ m []) :
    RelG C (σ.put o (n, mo')) a w ⟨G.μ, fun b => G.S b ∨ b ∈ G.φ o, fun x => if x = o then [] else G.φ x⟩ := by
  have hle : Wd.le ⟨w, G.S⟩ ⟨w, fun b => G.S b ∨ b ∈ G.φ o⟩ := fun b hb => ⟨.inl hb, rfl⟩
  exact {
    size := h.size
    defers := fun d hd => by
      obtain ⟨b, rfl, h1, h2, h3, h4, h5⟩ := h.defers d hd
      refine ⟨b, rfl, h1, h2, h3, fun hs => hs.elim h4 (h5 o), fun x hx => ?_⟩
      by_cases hxo : x = o <;> simp [hxo] at hx
      exact h5 x hx
    dnod := h.dnod
    mle := h.mle
    env := fun t => (h.env t).mono (Mu.le.refl _) hle
    gens := fun x => by
      by_cases hx : x = o
      · subst hx; have := h.gens x; rw [hm] at this; simpa [St.put] using this
      · simpa [St.put, hx] using h.gens x
    mem := fun x k mo' hx => by
      by_cases hxo : x = o
      · subst hxo
        simp only [St.put, if_true, Prod.mk.injEq] at hx
        obtain ⟨rfl, hx⟩ := hx
        simpa using hmo _ hx
      · simp only [St.put, hxo, if_false] at hx
        obtain ⟨g, m, hn, hm', hh⟩ := h.mem x k mo' hx
        exact ⟨g, m, hn, hm', by simpa [hxo] using hh.mono (Mu.le.refl _) hle fun _ _ => rfl⟩
    apart := fun x y b hxy hbx hby => by
      by_cases hx : x = o <;> by_cases hy : y = o <;> simp [hx, hy] at hbx hby
      exact h.apart x y b hxy hbx hby
    stab := fun x b hb hs => by
      by_cases hx : x = o <;> simp [hx] at hb
      rcases hs with hs | hs
      · exact h.stab x b hb hs
      · exact h.apart x o b hx hb hs
    own := fun x b hb => by
      by_cases hx : x = o <;> simp [hx] at hb
      exact h.own x b hb
    sbd := fun b hb => by
      rcases hb with hb | hb
      · exact h.sbd b hb
      · exact ⟨(h.own o b hb).2, .inr (h.own o b hb).1⟩
    ssub := fun b hb => .inl (h.ssub b hb)
    fr := h.fr }
end upd

/-! ### Operands and operations -/

def constAV (v : Value) : AV := match v with
  | .agg _ => .un
  | .tuple _ => .un
  | v => .p (.v v)

def St.look (σ : St) : Operand → AV
  | .tmp t => σ.env t
  | .const v => constAV v
  | .global _ => .un
  | .func f => .p (.v (.func (.func f) #[] #[]))

theorem constAV_holds (μ : Mu) (X : Wd) (v : Value) : (constAV v).holds μ X v := by
  cases v <;> simp [constAV, AV.holds, SV.holds, AC.holds, PVal.v, Value.oneCell']
theorem RelG.look {C : Ctx} {σ : St} {a : Act} {w : World} {G : Gh} (h : RelG C σ a w G) (x : Operand) : (σ.look x).holds G.μ ⟨w, G.S⟩ (a.eval x) := by
  cases x with
  | tmp t => exact h.env t
  | const v => exact constAV_holds _ _ v
  | global g => trivial
  | func f => simp [St.look, AV.holds, SV.holds, AC.holds, PVal.v, Value.oneCell', Act.eval]

/-- what an operation does to the abstract state: its value, and one object's new content -/
structure Eff where
  val : AV
  obj : List (Nat × (Nat × Option MO)) := []
def St.puts (σ : St) : List (Nat × (Nat × Option MO)) → St
  | [] => σ
  | (o, m) :: l => (σ.puts l).put o m
def Eff.app (e : Eff) (d : Option Nat) (σ : St) : St := (σ.puts e.obj).set d e.val

/-- in a round every operation but 'defer' is carried out as everywhere -/
theorem wpIn_exec {ro : Option Nat} {P : Program} {o : Oper} {a : Act} {w : World} {K : Act → World → Prop} {Q : Exit → Act → World → Prop} (hd : ∀ c, o.op ≠ .defer c)
    (h : o.uponIn (fz ro) 0 P a K Q ((execOp a.eval o).run P w)) : o.wpIn (fz ro) 0 P a w K Q := by
  refine ⟨fun _ _ => trivial, ?_⟩
  cases ro with
  | none => exact h
  | some l => show o.uponIn _ _ _ _ _ _ ((o.semAt (some l) a.eval).run P w); rw [Oper.semAt_some l a.eval o hd]; exact h

theorem notDefer {P : Program} {o : Oper} {ρ : Operand → Value} {w w' : World} {nx : Next} (h : (execOp ρ o).run P w = .ok nx w') (hn : ∀ d, nx ≠ .defer d) : ∀ c, o.op ≠ .defer c := by
  intro c hc
  simp only [execOp, hc, Sem.run_bind] at h
  generalize (resolve ρ c o.type).run P w = r at h
  cases r with
  | ok d w1 => simp [Result.andThen] at h; exact hn _ h.1.symm
  | halt x w1 => simp [Result.andThen] at h

def OpOk (C : Ctx) (o : Oper) (σ σ' : St) : Prop :=
  ∀ a w, Rel C σ a w → ∀ (K : Act → World → Prop) (Q : Exit → Act → World → Prop), (∀ a' w', Rel C σ' a' w' → K a' w') → o.wpIn (fz C.ro) 0 C.P a w K Q

/-- the operation, in every state that agrees with σ on its operands and on the objects that 'ro' names -/
def LOp (C : Ctx) (o : Oper) (σ : St) (e : Eff) (ro : Nat → Bool) : Prop :=
  (∀ x m, (x, m) ∈ e.obj → ro x = true) ∧
  ∀ τ : St, (∀ x, x ∈ o.op.operands → τ.look x = σ.look x) → (∀ x, ro x = true → τ.mem x = σ.mem x) → OpOk C o τ (e.app o.dst τ)

theorem LOp.ok {C : Ctx} {o : Oper} {σ : St} {e : Eff} {ro : Nat → Bool} (h : LOp C o σ e ro) : OpOk C o σ (e.app o.dst σ) := h.2 σ (fun _ _ => rfl) (fun _ _ => rfl)

/-- a guard's outcome -/
def Guard (ops : Array Oper) (σ : St) (o : Oper) (r : Bool) : Prop :=
  match o.guard with
  | none => r = true
  | some (j, want) => ∃ t b, (ops[j]?).bind (·.dst) = some t ∧ σ.env t = .p (.v (.bool b)) ∧ r = (b == want)

theorem Guard.wanted {C : Ctx} {ops : Array Oper} {σ : St} {o : Oper} {r : Bool} (h : Guard ops σ o r) {a : Act} {w : World} {G : Gh} (hr : RelG C σ a w G) :
    Region.wanted o (yielded ops a.tmps) = r := by
  unfold Guard at h
  unfold Region.wanted
  cases hg : o.guard with
  | none => simp only [hg] at h; exact h.symm
  | some jw =>
    obtain ⟨j, want⟩ := jw
    simp only [hg] at h
    obtain ⟨t, b, h1, h2, rfl⟩ := h
    have h3 := hr.env t
    rw [h2] at h3
    simp only [AV.holds, SV.holds, AC.holds, PVal.v] at h3
    have h4 : a.tmps[t]? = some (.bool b) := by
      have h5 := h3.1
      simp only [Array.getD_eq_getD_getElem?] at h5
      cases h6 : a.tmps[t]? with
      | none => rw [h6] at h5; simp [undef] at h5
      | some v => rw [h6] at h5; simp at h5; rw [h5]
    simp [yielded, h1, h4]

/-- the operations of a region, in the text's order, in a region that does not draw -/
def RunN (C : Ctx) (ops : Array Oper) : List Oper → (St → Prop) → St → Prop
  | [], K, σ => K σ
  | o :: rest, K, σ => (Guard ops σ o true ∧ ∃ σ', OpOk C o σ σ' ∧ RunN C ops rest K σ') ∨ (Guard ops σ o false ∧ dOk C o.dst = true ∧ RunN C ops rest K (σ.set o.dst .un))

theorem runN_sound {C : Ctx} {ops : Array Oper} {Q : Exit → Act → World → Prop} : ∀ (l : List Oper) {K : St → Prop} {σ : St}, RunN C ops l K σ →
    (∀ σ a w, K σ → Rel C σ a w → Q .normal a w) → ∀ a w, Rel C σ a w → wpListIn (fz C.ro) 0 C.P ops Q l a w
  | [], K, σ, h, hK, a, w, hr => hK _ _ _ h hr
  | o :: rest, K, σ, h, hK, a, w, hr => by
    obtain ⟨G, hG⟩ := hr
    unfold wpListIn
    rcases h with ⟨hg, σ', h1, h2⟩ | ⟨hg, hd, h2⟩
    · rw [hg.wanted hG, if_pos rfl]
      exact h1 a w ⟨G, hG⟩ _ _ fun a' w' hr' => runN_sound rest h2 hK a' w' hr'
    · rw [hg.wanted hG]
      simp only [Bool.false_eq_true, if_false]
      exact ⟨fun _ _ => trivial, runN_sound rest h2 hK _ _ ⟨G, hG.setv hd trivial⟩⟩

theorem aws_region {C : Ctx} {id : Nat} {l : List Oper} {k : List Code} {Q : Exit → St → Prop} {σ : St} (h : RunN C l.toArray l (AWs C k Q) σ) : AWs C (.region id l.toArray false :: k) Q σ := by
  intro a w hr
  exact wpIn_region_lit (runN_sound l h (fun σ a w hK hr => ⟨σ, hK, hr⟩) a w hr)

/-! ### A region that draws its order -/

/-- operation b waits for operation a -/
def edge (ops : Array Oper) (a b : Nat) : Bool := match ops[b]? with | some o => o.after.any (fun e => Region.binds .any e && e.on == a) | none => false

/-- 'W': which operation (by its number) writes which object. An operation may look at an object only if whoever else writes it waits for it, or it waits for that one. -/
def okObj (ops : Array Oper) (W : List (Nat × Nat)) (i : Nat) (x : Nat) : Bool := W.all (fun p => p.2 != x || p.1 == i || edge ops p.1 i || edge ops i p.1)

def Yld (C : Ctx) (ops : Array Oper) (W : List (Nat × Nat)) (i : Nat) (o : Oper) (e : Eff) (σ : St) : Prop :=
  (Guard ops σ o true ∧ dOk C o.dst = true ∧ ∃ ro, LOp C o σ e ro ∧ (∀ x, ro x = true → okObj ops W i x = true) ∧ (∀ x m, (x, m) ∈ e.obj → (i, x) ∈ W)) ∨
  (Guard ops σ o false ∧ dOk C o.dst = true ∧ e = ⟨.un, []⟩)

def RunK (C : Ctx) (ops : Array Oper) (W : List (Nat × Nat)) : Nat → List Oper → (St → Prop) → St → Prop
  | _, [], K, σ => K σ
  | i, o :: rest, K, σ => ∃ e, Yld C ops W i o e σ ∧ RunK C ops W (i + 1) rest K (e.app o.dst σ)

def KAny (C : Ctx) (ops : Array Oper) (W : List (Nat × Nat)) (K : St → Prop) : Nat → Array Bool → St → Prop
  | 0, listed, σ => Region.ready .any ops listed = [] ∧ K σ
  | fuel + 1, listed, σ => (Region.ready .any ops listed = [] → K σ) ∧
    ∀ i ∈ Region.ready .any ops listed, ∃ o, ops[i]? = some o ∧ ∃ e, Yld C ops W i o e σ ∧ KAny C ops W K fuel (listed.setIfInBounds i true) (e.app o.dst σ)

section draws
variable {C : Ctx} {ops : Array Oper} {W : List (Nat × Nat)}

theorem Eff.app_un (d : Option Nat) (σ : St) : (⟨.un, []⟩ : Eff).app d σ = σ.set d .un := rfl

theorem kAny_sound {K : St → Prop} {Q : Exit → Act → World → Prop} (hK : ∀ σ a w, K σ → Rel C σ a w → Q .normal a w) : ∀ (fuel : Nat) (listed : Array Bool) (σ : St) (a : Act) (w : World),
    KAny C ops W K fuel listed σ → Rel C σ a w → wpAnyIn (fz C.ro) 0 C.P .any ops Q fuel listed a w
  | 0, listed, σ, a, w, h, hr => ⟨h.1, hK _ _ _ h.2 hr⟩
  | fuel + 1, listed, σ, a, w, h, hr => by
    refine ⟨fun h0 => hK _ _ _ (h.1 h0) hr, fun i hi => ?_⟩
    obtain ⟨o, ho, e, hy, hk⟩ := h.2 i hi
    obtain ⟨G, hG⟩ := hr
    unfold wpOpIn
    simp only [ho]
    rcases hy with ⟨hg, hd, ro, hl, h1, h2⟩ | ⟨hg, hd, rfl⟩
    · rw [hg.wanted hG, if_pos rfl]
      exact hl.ok a w ⟨G, hG⟩ _ _ fun a' w' hr' => kAny_sound hK fuel _ _ a' w' hk hr'
    · rw [hg.wanted hG]
      simp only [Bool.false_eq_true, if_false]
      exact ⟨fun _ _ => trivial, kAny_sound hK fuel _ _ _ _ hk ⟨G, hG.setv hd trivial⟩⟩

theorem LOp.congr {o : Oper} {σ τ : St} {e : Eff} {ro : Nat → Bool} (h : LOp C o σ e ro) (h1 : ∀ x, x ∈ o.op.operands → τ.look x = σ.look x) (h2 : ∀ x, ro x = true → τ.mem x = σ.mem x) : LOp C o τ e ro :=
  ⟨h.1, fun u k1 k2 => h.2 u (fun x hx => (k1 x hx).trans (h1 x hx)) (fun x hx => (k2 x hx).trans (h2 x hx))⟩

theorem look_set {σ : St} {d : Option Nat} {v : AV} {x : Operand} (h : ∀ t, d = some t → x ≠ .tmp t) : (σ.set d v).look x = σ.look x := by
  cases d with
  | none => rfl
  | some d =>
    cases x with
    | tmp t =>
      have : t ≠ d := fun e => h d rfl (by rw [e])
      simp [St.look, St.set, this]
    | _ => rfl

theorem St.puts_env : ∀ (l : List (Nat × (Nat × Option MO))) (σ : St), (σ.puts l).env = σ.env
  | [], _ => rfl
  | (o, m) :: l, σ => by simp only [St.puts, St.put]; exact St.puts_env l σ
theorem St.puts_mem : ∀ (l : List (Nat × (Nat × Option MO))) (σ : St) (x : Nat), (∀ y m, (y, m) ∈ l → x ≠ y) → (σ.puts l).mem x = σ.mem x
  | [], _, _, _ => rfl
  | (o, m) :: l, σ, x, h => by
    simp only [St.puts, St.put, h o m (by simp), if_false]
    exact St.puts_mem l σ x fun y m hy => h y m (by simp [hy])
/-- what is put hangs on what was there only where nothing is put -/
theorem St.puts_in : ∀ (l : List (Nat × (Nat × Option MO))) (σ τ : St) (x : Nat), (∃ m, (x, m) ∈ l) → (σ.puts l).mem x = (τ.puts l).mem x
  | [], _, _, _, h => by simp at h
  | (o, m) :: l, σ, τ, x, h => by
    by_cases hx : x = o
    · simp [St.puts, St.put, hx]
    · simp only [St.puts, St.put, hx, if_false]
      refine St.puts_in l σ τ x ?_
      obtain ⟨n, hn⟩ := h
      simp only [List.mem_cons, Prod.mk.injEq] at hn
      rcases hn with hn | hn
      · exact absurd hn.1 hx
      · exact ⟨n, hn⟩
theorem St.set_mem {σ : St} {d : Option Nat} {v : AV} : (σ.set d v).mem = σ.mem := by cases d <;> rfl
theorem Eff.env_app {e : Eff} {d : Option Nat} {σ : St} {t : Nat} (h : ∀ t', d = some t' → t ≠ t') : (e.app d σ).env t = σ.env t := by
  unfold Eff.app
  cases d with
  | none => simp only [St.set]; rw [St.puts_env]
  | some d => simp only [St.set, h d rfl, if_false]; rw [St.puts_env]
theorem Eff.look_app {e : Eff} {d : Option Nat} {σ : St} {x : Operand} (h : ∀ t, d = some t → x ≠ .tmp t) : (e.app d σ).look x = σ.look x := by
  cases x with
  | tmp t => exact Eff.env_app fun t' ht he => h t' ht (by rw [he])
  | _ => rfl
theorem Eff.mem_app {e : Eff} {d : Option Nat} {σ : St} {x : Nat} (h : ∀ y m, (y, m) ∈ e.obj → x ≠ y) : (e.app d σ).mem x = σ.mem x := by
  unfold Eff.app
  rw [St.set_mem, St.puts_mem _ _ _ h]

theorem Eff.comm {e f : Eff} {d c : Option Nat} {σ : St} (hd : ∀ t, d = some t → c ≠ some t) (ho : ∀ x m y n, (x, m) ∈ e.obj → (y, n) ∈ f.obj → x ≠ y) :
    e.app d (f.app c σ) = f.app c (e.app d σ) := by
  have henv : (e.app d (f.app c σ)).env = (f.app c (e.app d σ)).env := by
    funext t
    by_cases h1 : d = some t
    · have h2 := hd t h1
      subst h1
      have e1 : (e.app (some t) (f.app c σ)).env t = e.val := by simp [Eff.app, St.set]
      rw [e1, Eff.env_app fun t' ht' => by intro hh; subst hh; exact h2 ht']
      simp [Eff.app, St.set]
    · rw [Eff.env_app (e := e) fun t' ht' => by intro hh; subst hh; exact h1 ht']
      by_cases h2 : c = some t
      · subst h2; simp [Eff.app, St.set]
      · rw [Eff.env_app fun t' ht' => by intro hh; subst hh; exact h2 ht', Eff.env_app fun t' ht' => by intro hh; subst hh; exact h2 ht', Eff.env_app fun t' ht' => by intro hh; subst hh; exact h1 ht']
  have hmem : (e.app d (f.app c σ)).mem = (f.app c (e.app d σ)).mem := by
    funext z
    by_cases h1 : ∃ m, (z, m) ∈ e.obj
    · have h2 : ∀ y m, (y, m) ∈ f.obj → z ≠ y := fun y m hy he => by
        obtain ⟨m', hm'⟩ := h1
        exact ho z m' y m hm' hy he
      rw [Eff.mem_app (e := f) h2]
      unfold Eff.app
      rw [St.set_mem, St.set_mem]
      exact St.puts_in _ _ _ z h1
    · have h1' : ∀ y m, (y, m) ∈ e.obj → z ≠ y := fun y m hy he => h1 ⟨m, by rw [he]; exact hy⟩
      rw [Eff.mem_app (e := e) h1']
      by_cases h2 : ∃ m, (z, m) ∈ f.obj
      · unfold Eff.app
        rw [St.set_mem, St.set_mem]
        exact St.puts_in _ _ _ z h2
      · have h2' : ∀ y m, (y, m) ∈ f.obj → z ≠ y := fun y m hy he => h2 ⟨m, by rw [he]; exact hy⟩
        rw [Eff.mem_app h2', Eff.mem_app h2', Eff.mem_app h1']
  have : ∀ s t : St, s.env = t.env → s.mem = t.mem → s = t := by rintro ⟨a, b⟩ ⟨c, d⟩ h1 h2; simp_all
  exact this _ _ henv hmem

theorem mem_looksAt {o : Oper} {t : Nat} (h : Operand.tmp t ∈ o.op.operands) : t ∈ o.looksAt ops :=
  List.mem_append_left _ (List.mem_filterMap.2 ⟨.tmp t, by simpa using h, rfl⟩)

/-- what an operation yields does not hang on what an operation apart from it does -/
theorem Yld.congr {i : Nat} {o : Oper} {e : Eff} {σ τ : St} (h : Yld C ops W i o e σ) (h1 : ∀ t, t ∈ o.looksAt ops → τ.env t = σ.env t) (h2 : ∀ x, okObj ops W i x = true → τ.mem x = σ.mem x) : Yld C ops W i o e τ := by
  have hlook : ∀ x, x ∈ o.op.operands → τ.look x = σ.look x := fun x hx => by
    cases x with
    | tmp t => exact h1 t (mem_looksAt hx)
    | _ => rfl
  have hguard : ∀ r, Guard ops σ o r → Guard ops τ o r := fun r hg => by
    unfold Guard at *
    cases hgd : o.guard with
    | none => simpa [hgd] using hg
    | some jw =>
      obtain ⟨j, want⟩ := jw
      simp only [hgd] at hg ⊢
      obtain ⟨t, b, g1, g2, g3⟩ := hg
      refine ⟨t, b, g1, ?_, g3⟩
      rw [h1 t ?_]; exact g2
      unfold Oper.looksAt
      refine List.mem_append_right _ ?_
      simp [hgd, g1]
  rcases h with ⟨hg, hd, ro, hl, k1, k2⟩ | ⟨hg, hd, rfl⟩
  · exact .inl ⟨hguard _ hg, hd, ro, hl.congr hlook (fun x hx => h2 x (k1 x hx)), k1, k2⟩
  · exact .inr ⟨hguard _ hg, hd, rfl⟩

theorem Yld.objW {i : Nat} {o : Oper} {e : Eff} {σ : St} (h : Yld C ops W i o e σ) {x : Nat} {m : Nat × Option MO} (hx : (x, m) ∈ e.obj) : (i, x) ∈ W ∧ okObj ops W i x = true := by
  rcases h with ⟨hg, hd, ro, hl, k1, k2⟩ | ⟨hg, hd, rfl⟩
  · exact ⟨k2 x m hx, k1 x (hl.1 x m hx)⟩
  · cases hx

theorem kAny_first {K : St → Prop} {i : Nat} {oi : Oper} {e : Eff} (hi : ops[i]? = some oi) :
    ∀ (fuel : Nat) (listed : Array Bool) (σ : St),
      (∀ (j : Nat) oj, ops[j]? = some oj → j ≠ i → listed.getD j true = false → (∀ e ∈ oj.after, Region.binds .any e = true → e.on ≠ i) → oi.apart ops oj = true) →
      i ∈ Region.ready .any ops listed → Yld C ops W i oi e σ →
      KAny C ops W K fuel (listed.setIfInBounds i true) (e.app oi.dst σ) → KAny C ops W K (fuel + 1) listed σ := by
  intro fuel
  induction fuel with
  | zero =>
    intro listed σ _ hr hy H
    refine ⟨fun h => (by rw [h] at hr; cases hr), fun j hj => ?_⟩
    by_cases hji : j = i
    · subst hji; exact ⟨oi, hi, e, hy, H⟩
    · have := ready_mono hj hji
      rw [H.1] at this
      cases this
  | succ fuel ih =>
    intro listed σ hfree hr hy H
    refine ⟨fun h => (by rw [h] at hr; cases hr), fun j hj => ?_⟩
    by_cases hji : j = i
    · subst hji; exact ⟨oi, hi, e, hy, H⟩
    · obtain ⟨oj', hoj', f, hyf, hk⟩ := H.2 j (ready_mono hj hji)
      obtain ⟨hjun, oj, hoj, hall⟩ := mem_ready.1 hj
      have hoo : oj' = oj := by rw [hoj] at hoj'; exact (Option.some.inj hoj').symm
      subst hoo
      have unl : ∀ (a : Nat), listed.getD a true = false → listed.getD a false = true → False := fun a h0 h1 => by
        rcases Nat.lt_or_ge a listed.size with h' | h'
        · simp [h'] at h0 h1; rw [h0] at h1; cases h1
        · simp [Array.getElem?_eq_none h'] at h1
      have hiun := (mem_ready.1 hr).1
      have hnot : ∀ e ∈ oj'.after, Region.binds .any e = true → e.on ≠ i := fun e he hb heq => by
        have h1 := hall e he hb
        rw [heq] at h1
        exact unl i hiun h1
      have hap := hfree j oj' hoj hji hjun hnot
      obtain ⟨a1, a2, a3⟩ := Oper.apart_spec hap
      have noedge : edge ops i j = false := by
        unfold edge
        simp only [hoj]
        rw [Bool.eq_false_iff]
        intro hc
        obtain ⟨e, he, hb⟩ := Array.any_eq_true'.1 hc
        simp only [Bool.and_eq_true, beq_iff_eq] at hb
        exact hnot e he hb.1 hb.2
      have noedge' : edge ops j i = false := by
        unfold edge
        simp only [hi]
        rw [Bool.eq_false_iff]
        intro hc
        obtain ⟨e, he, hb⟩ := Array.any_eq_true'.1 hc
        simp only [Bool.and_eq_true, beq_iff_eq] at hb
        obtain ⟨_, o', ho', hall'⟩ := mem_ready.1 hr
        rw [hi] at ho'
        obtain rfl := Option.some.inj ho'
        have h1 := hall' e he hb.1
        rw [hb.2] at h1
        exact unl j hjun h1
      have objne : ∀ (p q : Nat) x y, (p, x) ∈ W → okObj ops W q y = true → p ≠ q → edge ops p q = false → edge ops q p = false → y ≠ x := fun p q x y hW hok hpq e1 e2 he => by
        subst he
        unfold okObj at hok
        have := List.all_eq_true.1 hok (p, y) hW
        simp [e1, e2, hpq] at this
      -- j does not see what i does
      have hyf' : Yld C ops W j oj' f σ := hyf.congr
        (fun t ht => (Eff.env_app fun t' ht' he => by subst he; exact a1 t ht' ht).symm)
        (fun x hx => (Eff.mem_app fun y m hy' => objne i j y x (hy.objW hy').1 hx (fun h => hji h.symm) noedge noedge').symm)
      have hy' : Yld C ops W i oi e (f.app oj'.dst σ) := hy.congr
        (fun t ht => Eff.env_app fun t' ht' he => by subst he; exact a3 t ht' ht)
        (fun x hx => Eff.mem_app fun y m hy' => objne j i y x (hyf.objW hy').1 hx hji noedge' noedge)
      have hcomm : e.app oi.dst (f.app oj'.dst σ) = f.app oj'.dst (e.app oi.dst σ) := Eff.comm a2
        (fun x m y n hx hy2 he => by
          subst he
          have h3 := (hyf.objW hy2).2
          exact objne i j x x (hy.objW hx).1 h3 (fun h => hji h.symm) noedge noedge' rfl)
      refine ⟨oj', hoj, f, hyf', ?_⟩
      have hfree' : ∀ (k : Nat) ok, ops[k]? = some ok → k ≠ i → (listed.setIfInBounds j true).getD k true = false →
          (∀ e ∈ ok.after, Region.binds .any e = true → e.on ≠ i) → oi.apart ops ok = true := fun k ok hk hki hun hno => by
        refine hfree k ok hk hki ?_ hno
        by_cases hjk : j = k
        · subst hjk; exact hjun
        · rw [getD_set_ne true hjk] at hun; exact hun
      refine ih (listed.setIfInBounds j true) _ hfree' (ready_mono hr (Ne.symm hji)) hy' ?_
      rw [Array.setIfInBounds_comm _ _ hji, hcomm]
      exact hk

theorem kAny_lex {K : St → Prop} : ∀ (l : List Oper) (k : Nat) (listed : Array Bool) (σ : St), (∀ j, l[j]? = ops[k + j]?) →
    Region.lexFrom .any ops l.length k listed = true → RunK C ops W k l K σ → KAny C ops W K l.length listed σ
  | [], _, _, _, _, hB, h => ⟨by simpa [Region.lexFrom] using hB, h⟩
  | o :: l, k, listed, σ, hl, hB, h => by
    have h0 : ops[k]? = some o := by simpa using (hl 0).symm
    simp only [List.length_cons, Region.lexFrom, Bool.and_eq_true] at hB
    obtain ⟨⟨hr, hf⟩, hB'⟩ := hB
    obtain ⟨e, hy, hK⟩ := h
    exact kAny_first h0 l.length listed σ (Region.free_spec h0 hf) (by simpa using hr) hy
      (kAny_lex l (k + 1) _ _ (fun j => by have := hl (j + 1); simpa [Nat.add_assoc, Nat.add_comm 1 j] using this) hB' hK)

theorem aws_draws {id : Nat} {l : List Oper} {k : List Code} {Q : Exit → St → Prop} {σ : St} (W : List (Nat × Nat)) (hm : C.P.follows .mixedOrders = true) (hB : Region.lexB .any l.toArray = true)
    (h : RunK C l.toArray W 0 l (AWs C k Q) σ) : AWs C (.region id l.toArray true :: k) Q σ := by
  intro a w hr
  simp only [Region.lexB, Bool.and_eq_true] at hB
  obtain ⟨G, hG⟩ := hr
  refine wpIn_region_any hm (kAny_sound (W := W) (K := AWs C k Q) (fun σ a w hK hr => ⟨σ, hK, hr⟩) _ _ _ _ _ ?_ ⟨G, hG.world' (Quiet.drew w)⟩)
  have := kAny_lex (C := C) (W := W) (K := AWs C k Q) (ops := l.toArray) l 0 (Array.replicate l.toArray.size false) σ (by simp) (by simpa using hB.2) h
  simpa using this
end draws

/-! ### Contracts -/

/-- Called with arguments of which this is known, in whatever memory: it returns such a value, and old memory is as it was. -/
def PCall (P : Program) (f : FuncId) (args : List AV) (r : AV) : Prop :=
  ∀ (w : World) (S : Nat → Prop) (vs : List Value), (∀ b, S b → b < w.heap.size) → All2 (AV.holds Mu.none ⟨w, S⟩) args vs →
    Calls P f vs.toArray w fun e w' => ∃ v, e = .returned v ∧ (∃ S' : Nat → Prop, (∀ b, S b → S' b) ∧ (∀ b, S' b → S b ∨ (w.heap.size ≤ b ∧ b < w'.heap.size)) ∧ r.holds Mu.none ⟨w', S'⟩ v) ∧ Below w.heap.size w w'

end Go.Aw
