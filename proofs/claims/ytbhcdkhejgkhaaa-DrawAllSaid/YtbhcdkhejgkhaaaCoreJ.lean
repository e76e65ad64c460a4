/- THE ABSTRACT WALK, part 10: a call that is lent objects, at the caller. -/
import Derived.Test.YtbhcdkhejgkhaaaCoreG
namespace Go.Aw
open Go Go.RowKit
set_option linter.unusedVariables false
set_option linter.unusedSimpArgs false

def putsM (mem : Nat → Nat × Option MO) : List (Nat × (Nat × Option MO)) → Nat → Nat × Option MO
  | [], o => mem o
  | (k, m) :: l, o => if o = k then m else putsM mem l o
theorem puts_mem_eq : ∀ (l : List (Nat × (Nat × Option MO))) (σ : St) (o : Nat), (σ.puts l).mem o = putsM σ.mem l o
  | [], _, _ => rfl
  | (k, m) :: l, σ, o => by
    simp only [St.puts, St.put, putsM]
    split
    · rfl
    · exact puts_mem_eq l σ o

theorem RelG.objG {C : Ctx} {σ : St} {a : Act} {w : World} {G : Gh} (h : RelG C σ a w G) : ObjG σ.mem w G :=
  ⟨h.gens, h.mem, h.apart, h.stab, fun o b hb => (h.own o b hb).2, fun b hb => (h.sbd b hb).1⟩

/-- behind a call that turned the objects 'D' -/
theorem RelG.called {C : Ctx} {σ : St} {a : Act} {w w' : World} {G G' : Gh} {D : Nat → Prop} {mem' : Nat → Nat × Option MO} (h : RelG C σ a w G) (ho : ObjG mem' w' G')
    (hS : ∀ b, G.S b → G'.S b) (hS' : ∀ b, G'.S b → G.S b ∨ w.heap.size ≤ b ∨ ∃ o, D o ∧ b ∈ G.φ o)
    (hφ : ∀ o b, b ∈ G'.φ o → b ∈ G.φ o ∨ w.heap.size ≤ b ∨ ∃ o', D o' ∧ b ∈ G.φ o') (hμ : G.μ.le G'.μ) (hf : FrF (fun b => ∃ o, D o ∧ b ∈ G.φ o) w w') :
    RelG C ⟨σ.env, mem'⟩ a w' G' := by
  have hle : Wd.le ⟨w, G.S⟩ ⟨w', G'.S⟩ := fun b hb => ⟨hS b hb, hf.block b (h.sbd b hb).1 fun ⟨o, _, ho⟩ => h.stab o b ho hb⟩
  exact {
    size := h.size
    defers := fun d hd => by
      obtain ⟨b, rfl, h1, h2, h3, h4, h5⟩ := h.defers d hd
      refine ⟨b, rfl, h1, Nat.lt_of_lt_of_le h2 hf.size, (hf.block b h2 fun ⟨o, _, ho⟩ => h5 o ho).trans h3, fun hs => ?_, fun o hb => ?_⟩
      · rcases hS' b hs with hs | hs | ⟨o, _, hs⟩
        · exact h4 hs
        · omega
        · exact h5 o hs
      · rcases hφ o b hb with hb | hb | ⟨o, _, hb⟩
        · exact h5 o hb
        · omega
        · exact h5 o hb
    dnod := h.dnod
    mle := h.mle.trans hμ
    env := fun t => (h.env t).mono hμ hle
    gens := ho.gens
    mem := ho.mem
    apart := ho.apart
    stab := ho.stab
    own := fun o b hb => ⟨by
      rcases hφ o b hb with h1 | h1 | ⟨o', _, h1⟩
      · exact (h.own o b h1).1
      · exact .inl (Nat.le_trans h.fr.size h1)
      · exact (h.own o' b h1).1, ho.own o b hb⟩
    sbd := fun b hb => ⟨ho.sbd b hb, by
      rcases hS' b hb with h1 | h1 | ⟨o, _, h1⟩
      · exact (h.sbd b h1).2
      · exact .inr (.inl (Nat.le_trans h.fr.size h1))
      · exact .inr (h.own o b h1).1⟩
    ssub := fun b hb => hS b (h.ssub b hb)
    fr := ⟨hf.os.trans h.fr.os, hf.tape.trans h.fr.tape, hf.output.trans h.fr.output, Nat.le_trans h.fr.size hf.size, fun k hk hF => by
      refine (hf.block k (Nat.lt_of_lt_of_le hk h.fr.size) fun ⟨o, _, ho⟩ => ?_).trans (h.fr.block k hk hF)
      rcases (h.own o k ho).1 with h1 | h1
      · omega
      · exact hF h1⟩ }

def inL (l : List (Nat × (Nat × Option MO))) (o : Nat) : Prop := kIn l o = true

/-- As the caller sees it: 'lent' is what the objects are ahead of the call, 'fresh' which come to a new generation in it (and how many they had), 'upds' what all these are behind it. -/
def OCAt (P : Program) (f : FuncId) (args : List AV) (lent : List (Nat × (Nat × Option MO))) (fresh : List (Nat × Nat)) (r : AV) (upds : List (Nat × (Nat × Option MO))) : Prop :=
  ∀ (w : World) (G : Gh) (mem : Nat → Nat × Option MO) (vs : List Value), ObjG mem w G → (∀ p ∈ lent, mem p.1 = p.2) → (∀ p ∈ fresh, (mem p.1).1 = p.2) → All2 (AV.holds G.μ ⟨w, G.S⟩) args vs →
    Calls P f vs.toArray w fun e w' => ∃ v G', e = .returned v ∧ r.holds G'.μ ⟨w', G'.S⟩ v ∧ ObjG (putsM mem upds) w' G' ∧
      (∀ b, G.S b → G'.S b) ∧ (∀ b, G'.S b → G.S b ∨ w.heap.size ≤ b ∨ ∃ o, inL upds o ∧ b ∈ G.φ o) ∧ (∀ o b, b ∈ G'.φ o → b ∈ G.φ o ∨ w.heap.size ≤ b ∨ ∃ o', inL upds o' ∧ b ∈ G.φ o') ∧
      G.μ.le G'.μ ∧ FrF (fun b => ∃ o, inL upds o ∧ b ∈ G.φ o) w w'

theorem inL_of {l : List (Nat × (Nat × Option MO))} {x : Nat} {m : Nat × Option MO} (h : (x, m) ∈ l) : kIn l x = true := by
  induction l with
  | nil => cases h
  | cons p l ih =>
    obtain ⟨k, n⟩ := p
    simp only [List.mem_cons, Prod.mk.injEq] at h
    simp only [kIn, Bool.or_eq_true]
    rcases h with ⟨rfl, _⟩ | h
    · exact .inl (by simp)
    · exact .inr (ih h)
theorem of_inL {l : List (Nat × (Nat × Option MO))} {x : Nat} (h : kIn l x = true) : ∃ m, (x, m) ∈ l := by
  induction l with
  | nil => cases h
  | cons p l ih =>
    obtain ⟨k, n⟩ := p
    simp only [kIn, Bool.or_eq_true] at h
    rcases h with h | h
    · obtain rfl := Nat.eq_of_beq_eq_true h; exact ⟨n, by simp⟩
    · obtain ⟨m, hm⟩ := ih h; exact ⟨m, by simp [hm]⟩
theorem putsM_in : ∀ (l : List (Nat × (Nat × Option MO))) (m m' : Nat → Nat × Option MO) (o : Nat), kIn l o = true → putsM m l o = putsM m' l o
  | [], _, _, _, h => by cases h
  | (k, n) :: l, m, m', o, h => by
    simp only [putsM]
    split
    · rfl
    · rename_i hk
      simp only [kIn, Bool.or_eq_true] at h
      exact putsM_in l m m' o (h.resolve_left fun h => hk (Nat.eq_of_beq_eq_true h))
theorem putsM_out : ∀ (l : List (Nat × (Nat × Option MO))) (m : Nat → Nat × Option MO) (o : Nat), kIn l o = false → putsM m l o = m o
  | [], _, _, _ => rfl
  | (k, n) :: l, m, o, h => by
    simp only [kIn, Bool.or_eq_false_iff] at h
    have hk : o ≠ k := fun e => by rw [e] at h; simp at h
    simp only [putsM, hk, if_false]; exact putsM_out l m o h.2

theorem lop_ocall {C : Ctx} {o : Oper} {σ : St} {f : FuncId} {as : Array Operand} {ts : Array TypeId} {args : List AV} {lent upds : List (Nat × (Nat × Option MO))} {fresh : List (Nat × Nat)} {r : AV}
    (ho : o.op = .call ⟨.value (.func f), as, ts⟩) (hfn : FnT C.P f) (ha : All2 (fun x a => σ.look x = a) as.toList args) (hc : OCAt C.P f args lent fresh r upds)
    (hl : ∀ p ∈ lent, σ.mem p.1 = p.2) (hfr : ∀ p ∈ fresh, (σ.mem p.1).1 = p.2) (hsub : ∀ p ∈ lent, kIn upds p.1 = true) (hsub' : ∀ p ∈ fresh, kIn upds p.1 = true) (hd : dOk C o.dst = true) :
    LOp C o σ ⟨r, upds⟩ (kIn upds) := by
  refine ⟨fun x m h => inL_of h, fun τ hlk hm a w ⟨G, h⟩ K Q hK => ?_⟩
  have hv : All2 (AV.holds G.μ ⟨w, G.S⟩) args (as.toList.map a.eval) := by
    refine ⟨by have := ha.1; simpa using this.symm, fun i av v hav hvv => ?_⟩
    rw [List.getElem?_map] at hvv
    cases hx : as.toList[i]? with
    | none => rw [hx] at hvv; cases hvv
    | some x =>
      rw [hx] at hvv; simp at hvv; subst hvv
      have h1 := ha.2 i x av hx hav
      have h2 : τ.look x = σ.look x := hlk x (by rw [ho]; simp [Op.operands, Call.operands]; right; simpa using List.mem_of_getElem? hx)
      rw [← h1, ← h2]; exact h.look x
  obtain ⟨fn, h1, h2, h3⟩ := hfn.fn
  have hrun : (execOp a.eval o).run C.P w = .ok (.enter f (as.map a.eval)) w := by
    have e1 : a.eval (.func f) = .func (.func f) #[] #[] := rfl
    have hname : (fn.name == "runtime.NumGoroutine") = false := h2
    cases hbody : fn.body with
    | none => simp [hbody] at h3
    | some c => simp [execOp, ho, resolve, e1, Deferred.ofValue, invoke, callFunc, program, Sem.run, Sem.run_bind, h1, hbody, pure, show ¬ fn.name = "runtime.NumGoroutine" from by simpa using hname]
  refine wpIn_exec (by rw [ho]; intro c h; cases h) ?_
  rw [hrun, Oper.uponIn_enter]
  refine ⟨by simp [fz, Fence.wide], (callsIn_wide (n := 0)).2 ?_⟩
  have e : (as.toList.map a.eval).toArray = as.map a.eval := by rw [← Array.toList_map]
  rw [← e]
  refine (hc w G τ.mem _ h.objG (fun p hp => (hm p.1 (hsub p hp)).trans (hl p hp)) (fun p hp => by rw [hm p.1 (hsub' p hp)]; exact hfr p hp) hv).mono ?_
  rintro e w' ⟨v, G', rfl, hr, hobj, k1, k2, k3, k4, k5⟩
  have hrel := h.called hobj k1 k2 k3 k4 k5
  have hst : (⟨τ.env, putsM τ.mem upds⟩ : St) = τ.puts upds := by
    have e1 := St.puts_env upds τ
    have e2 : (τ.puts upds).mem = putsM τ.mem upds := funext fun o => puts_mem_eq upds τ o
    cases hq : τ.puts upds; rw [hq] at e1 e2; simp at e1 e2; rw [e1, e2]
  rw [hst] at hrel
  exact hK _ _ ⟨_, hrel.setv hd hr⟩

/-! ### Other numbers for the objects -/
/-- how the callee's numbers read at the caller: the same generations, or behind so many -/
abbrev Rn := Nat → Option (Nat × Option Nat)
def PVal.no : PVal := ⟨fun _ _ => False, fun _ h => h, fun h => h.elim⟩
def AC.ren (ρ : Rn) : AC → AC
  | .p x => .p x
  | .ptr o g off => match ρ o with | some (c, none) => .ptr c g off | some (c, some n) => .ptr c (n + g) off | none => .p .no
  | .osl o g es lo len => match ρ o with | some (c, none) => .osl c g es lo len | some (c, some n) => .osl c (n + g) es lo len | none => .p .no
  | .asl o g off len cap => match ρ o with | some (c, none) => .asl c g off len cap | some (c, some n) => .asl c (n + g) off len cap | none => .p .no
def SV.ren (ρ : Rn) : SV → SV
  | .one c => .one (c.ren ρ)
  | .agg cs => .agg (cs.map (AC.ren ρ))
def AV.ren (ρ : Rn) : AV → AV
  | .un => .un
  | .s v => .s (v.ren ρ)
  | .tup vs => .tup (vs.map (SV.ren ρ))
def MO.ren (ρ : Rn) : MO → MO
  | .box ty cs => .box ty (cs.map (AC.ren ρ))
  | m => m

/-- the callee's objects, as the caller's -/
structure Agree (ρ : Rn) (μc μ : Mu) : Prop where
  lent : ∀ k c, ρ k = some (c, none) → μc k = μ c
  fresh : ∀ (k c n : Nat), ρ k = some (c, some n) → ∀ (g : Nat), (μc k)[g]? = (μ c)[n + g]?
  none : ∀ k, ρ k = none → μc k = []

section ren
variable {ρ : Rn} {μc μ : Mu} {X : Wd}
theorem AC.holds_ren (h : Agree ρ μc μ) {c : AC} {v : Value} : (c.ren ρ).holds μ X v ↔ c.holds μc X v := by
  cases c with
  | p x => rfl
  | ptr o g off =>
    cases hr : ρ o with
    | none => simp [AC.ren, hr, AC.holds, PVal.no, h.none o hr]
    | some cs =>
      obtain ⟨c, s⟩ := cs
      cases s with
      | none => simp [AC.ren, hr, AC.holds, h.lent o c hr]
      | some n => simp [AC.ren, hr, AC.holds, h.fresh o c n hr]
  | osl o g es lo len =>
    cases hr : ρ o with
    | none => simp [AC.ren, hr, AC.holds, PVal.no, h.none o hr]
    | some cs =>
      obtain ⟨c, s⟩ := cs
      cases s with
      | none => simp [AC.ren, hr, AC.holds, h.lent o c hr]
      | some n => simp [AC.ren, hr, AC.holds, h.fresh o c n hr]
  | asl o g off len cap =>
    cases hr : ρ o with
    | none => simp [AC.ren, hr, AC.holds, PVal.no, h.none o hr]
    | some cs =>
      obtain ⟨c, s⟩ := cs
      cases s with
      | none => simp [AC.ren, hr, AC.holds, h.lent o c hr]
      | some n => simp [AC.ren, hr, AC.holds, h.fresh o c n hr]
theorem acs_ren (h : Agree ρ μc μ) {cs : List AC} {vs : List Value} : All2 (AC.holds μ X) (cs.map (AC.ren ρ)) vs ↔ All2 (AC.holds μc X) cs vs := by
  unfold All2
  simp only [List.length_map]
  refine and_congr Iff.rfl ⟨fun k i a b ha hb => ?_, fun k i a b ha hb => ?_⟩
  · exact (AC.holds_ren h).1 (k i _ b (by rw [List.getElem?_map, ha]; rfl) hb)
  · rw [List.getElem?_map] at ha
    cases hx : cs[i]? with
    | none => rw [hx] at ha; cases ha
    | some x => rw [hx] at ha; simp at ha; subst ha; exact (AC.holds_ren h).2 (k i x b hx hb)
theorem SV.holds_ren (h : Agree ρ μc μ) {s : SV} {v : Value} : (s.ren ρ).holds μ X v ↔ s.holds μc X v := by
  cases s with
  | one c => exact AC.holds_ren h
  | agg cs => simp only [SV.ren, SV.holds, acs_ren h]
theorem AV.holds_ren (h : Agree ρ μc μ) {s : AV} {v : Value} : (s.ren ρ).holds μ X v ↔ s.holds μc X v := by
  cases s with
  | un => rfl
  | s v => exact SV.holds_ren h
  | tup vs =>
    simp only [AV.ren, AV.holds]
    refine exists_congr fun arr => and_congr Iff.rfl ?_
    unfold All2
    simp only [List.length_map]
    refine and_congr Iff.rfl ⟨fun k i a b ha hb => ?_, fun k i a b ha hb => ?_⟩
    · exact (SV.holds_ren h).1 (k i _ b (by rw [List.getElem?_map, ha]; rfl) hb)
    · rw [List.getElem?_map] at ha
      cases hx : vs[i]? with
      | none => rw [hx] at ha; cases ha
      | some x => rw [hx] at ha; simp at ha; subst ha; exact (SV.holds_ren h).2 (k i x b hx hb)
theorem MO.holds_ren (h : Agree ρ μc μ) {mo : MO} {m : Option Nat × Nat} {fp : List Nat} : (mo.ren ρ).holds μ X m fp ↔ mo.holds μc X m fp := by
  cases mo with
  | box ty cs => simp only [MO.ren, MO.holds, acs_ren h]
  | _ => rfl
end ren

theorem ocat_of {P : Program} {f : FuncId} {args : List AV} {m0 m1 : Nat → Nat × Option MO} {r : AV} {lent upds : List (Nat × (Nat × Option MO))} {fresh : List (Nat × Nat)} (ρ : Rn) (ρ' : Nat → Option (Nat × Option Nat))
    (h : OCall P f args m0 r m1)
    (hinv : ∀ k c s, ρ k = some (c, s) ↔ ρ' c = some (k, s))
    (hlent : ∀ k c, ρ k = some (c, none) → (c, ((m0 k).1, (m0 k).2.map (MO.ren ρ))) ∈ lent)
    (hfresh : ∀ (k c n : Nat), ρ k = some (c, some n) → m0 k = (0, none) ∧ (c, n) ∈ fresh)
    (hnone : ∀ k, ρ k = none → m0 k = (0, none) ∧ m1 k = (0, none))
    (hup : ∀ c k s, ρ' c = some (k, s) → kIn upds c = true ∧ ∀ mem, putsM mem upds c = (s.getD 0 + (m1 k).1, (m1 k).2.map (MO.ren ρ)))
    (hup' : ∀ c, ρ' c = none → kIn upds c = false) :
    OCAt P f (args.map (AV.ren ρ)) lent fresh (r.ren ρ) upds := by
  intro w G mem vs ho hl hf ha
  have hag : Agree ρ (fun k => match ρ k with | some (c, none) => G.μ c | _ => []) G.μ := by
    refine ⟨fun k c hk => by simp [hk], fun k c n hk g => ?_, fun k hk => by simp [hk]⟩
    have h1 := hf _ (hfresh k c n hk).2
    have h2 := ho.gens c
    simp only at h1
    simp [hk, h2, h1]
  have hren : ∀ {k c : Nat}, ρ k = some (c, none) → mem c = ((m0 k).1, (m0 k).2.map (MO.ren ρ)) := fun {k c} hk => hl _ (hlent k c hk)
  have hm0 : ∀ {k n mo}, m0 k = (n, some mo) → ∃ c, ρ k = some (c, none) := fun {k n mo} hk => by
    cases hr : ρ k with
    | none => rw [(hnone k hr).1] at hk; cases hk
    | some cs =>
      obtain ⟨c, s⟩ := cs
      cases s with
      | none => exact ⟨c, rfl⟩
      | some n => rw [(hfresh k c n hr).1] at hk; cases hk
  refine (h w ⟨fun k => match ρ k with | some (c, none) => G.μ c | _ => [], G.S, fun k => match ρ k with | some (c, none) => G.φ c | _ => []⟩ vs ?_ ?_).mono ?_
  · exact {
      gens := fun k => by
        cases hr : ρ k with
        | none => simp [(hnone k hr).1, hr]
        | some cs =>
          obtain ⟨c, s⟩ := cs
          cases s with
          | none => have := ho.gens c; rw [hren hr] at this; simpa [hr] using this
          | some n => simp [(hfresh k c n hr).1, hr]
      mem := fun k n mo hk => by
        obtain ⟨c, hr⟩ := hm0 hk
        have h1 := hren hr
        rw [hk] at h1
        obtain ⟨g, m, k1, k2, k3⟩ := ho.mem c _ _ h1
        exact ⟨g, m, k1, by simpa [hr] using k2, by simpa [hr] using (MO.holds_ren hag).1 k3⟩
      apart := fun k k' b hne h1 h2 => by
        cases hr : ρ k with
        | none => simp [hr] at h1
        | some cs =>
          obtain ⟨c, s⟩ := cs
          cases s with
          | some n => simp [hr] at h1
          | none =>
            cases hr' : ρ k' with
            | none => simp [hr'] at h2
            | some cs' =>
              obtain ⟨c', s'⟩ := cs'
              cases s' with
              | some n => simp [hr'] at h2
              | none =>
                simp [hr] at h1; simp [hr'] at h2
                refine ho.apart c c' b (fun e => hne ?_) h1 h2
                subst e
                have e1 := (hinv k c none).1 hr
                have e2 := (hinv k' c none).1 hr'
                rw [e1] at e2; simpa using e2
      stab := fun k b hb hs => by
        cases hr : ρ k with
        | none => simp [hr] at hb
        | some cs =>
          obtain ⟨c, s⟩ := cs
          cases s with
          | some n => simp [hr] at hb
          | none => simp [hr] at hb; exact ho.stab c b hb hs
      own := fun k b hb => by
        cases hr : ρ k with
        | none => simp [hr] at hb
        | some cs =>
          obtain ⟨c, s⟩ := cs
          cases s with
          | some n => simp [hr] at hb
          | none => simp [hr] at hb; exact ho.own c b hb
      sbd := ho.sbd }
  · refine ⟨by have := ha.1; simpa using this, fun i av v hav hv => ?_⟩
    exact (AV.holds_ren hag).1 (ha.2 i (av.ren ρ) v (by rw [List.getElem?_map, hav]; rfl) hv)
  · rintro e w' ⟨v, G', rfl, hr, hobj, k1, k2, k3, k4, k5⟩
    have ob : ∀ {k b}, b ∈ (match ρ k with | some (c, none) => G.φ c | _ => []) → ∃ c, inL upds c ∧ b ∈ G.φ c := fun {k b} hb => by
      cases hr : ρ k with
      | none => simp [hr] at hb
      | some cs =>
        obtain ⟨c, s⟩ := cs
        cases s with
        | some n => simp [hr] at hb
        | none => simp [hr] at hb; exact ⟨c, (hup c k none ((hinv k c none).1 hr)).1, hb⟩
    have hag' : Agree ρ G'.μ (fun c => match ρ' c with | some (k, none) => G'.μ k | some (k, some n) => G.μ c ++ G'.μ k | none => G.μ c) := by
      refine ⟨fun k c hk => by simp [(hinv k c none).1 hk], fun k c n hk g => ?_, fun k hk => ?_⟩
      · have h1 := hf _ (hfresh k c n hk).2
        have h2 := ho.gens c
        simp only at h1
        simp only [(hinv k c (some n)).1 hk]
        rw [List.getElem?_append_right (by omega)]
        congr 1; omega
      · have := hobj.gens k
        rw [(hnone k hk).2] at this
        exact List.eq_nil_of_length_eq_zero this
    refine ⟨v, ⟨fun c => match ρ' c with | some (k, none) => G'.μ k | some (k, some n) => G.μ c ++ G'.μ k | none => G.μ c, G'.S, fun c => match ρ' c with | some (k, _) => G'.φ k | none => G.φ c⟩, rfl, (AV.holds_ren hag').2 hr, ?_, k1, ?_, ?_, ?_, ?_⟩
    · have hle : Wd.le ⟨w, G.S⟩ ⟨w', G'.S⟩ := fun b hb => ⟨k1 b hb, k5.block b (ho.sbd b hb) fun ⟨k, hk⟩ => by
        obtain ⟨c, _, hc⟩ := ob hk
        exact ho.stab c b hc hb⟩
      have hmu : G.μ.le (fun c => match ρ' c with | some (k, none) => G'.μ k | some (k, some n) => G.μ c ++ G'.μ k | none => G.μ c) := fun c g x hx => by
        cases hr' : ρ' c with
        | none => simpa [hr'] using hx
        | some ks =>
          obtain ⟨k, s⟩ := ks
          cases s with
          | none =>
            have h1 := (hinv k c none).2 hr'
            simp only [hr']
            exact k4 k g x (by simpa [h1] using hx)
          | some n =>
            simp only [hr']
            rw [List.getElem?_append_left (List.getElem?_eq_some_iff.1 hx).1]; exact hx
      have out : ∀ {c}, ρ' c = none → ∀ k, k ∈ G.φ c → w'.heap[k]? = w.heap[k]? := fun {c} hc b hb => k5.block b (ho.own c b hb) fun ⟨k, hk⟩ => by
        cases hr : ρ k with
        | none => simp [hr] at hk
        | some cs =>
          obtain ⟨c', s⟩ := cs
          cases s with
          | some n => simp [hr] at hk
          | none =>
            simp [hr] at hk
            refine ho.apart c c' b (fun e => ?_) hb hk
            subst e
            rw [(hinv k c none).1 hr] at hc; cases hc
      have fresh2 : ∀ {c k s b}, ρ' c = some (k, s) → b ∈ G'.φ k → w.heap.size ≤ b ∨ ∃ c', ρ' c' ≠ none ∧ b ∈ G.φ c' := fun {c k s b} hc hb => by
        rcases k3 k b hb with h1 | ⟨k', h1⟩
        · exact .inl h1
        · right
          cases hr : ρ k' with
          | none => simp [hr] at h1
          | some cs =>
            obtain ⟨c', s'⟩ := cs
            cases s' with
            | some n => simp [hr] at h1
            | none => simp [hr] at h1; exact ⟨c', by rw [(hinv k' c' none).1 hr]; simp, h1⟩
      exact {
        gens := fun c => by
          cases hr' : ρ' c with
          | none => rw [putsM_out _ _ _ (hup' c hr')]; simpa [hr'] using ho.gens c
          | some ks =>
            obtain ⟨k, s⟩ := ks
            rw [(hup c k s hr').2]
            cases s with
            | none => simpa [hr'] using hobj.gens k
            | some n =>
              have h1 := hf _ (hfresh k c n ((hinv k c (some n)).2 hr')).2
              have h2 := ho.gens c
              simp only at h1
              simp [hr', hobj.gens k, h2, h1]
        mem := fun c n mo hc => by
          cases hr' : ρ' c with
          | none =>
            rw [putsM_out _ _ _ (hup' c hr')] at hc
            obtain ⟨g, m, j1, j2, j3⟩ := ho.mem c n mo hc
            exact ⟨g, m, j1, by simpa [hr'] using j2, by simpa only [hr'] using j3.mono hmu hle (out hr')⟩
          | some ks =>
            obtain ⟨k, s⟩ := ks
            rw [(hup c k s hr').2] at hc
            cases hm1 : m1 k with
            | mk n1 x =>
              cases x with
              | none => rw [hm1] at hc; simp at hc
              | some mo1 =>
                rw [hm1] at hc
                simp only [Option.map_some, Prod.mk.injEq, Option.some.injEq] at hc
                obtain ⟨rfl, rfl⟩ := hc
                obtain ⟨g, m, j1, j2, j3⟩ := hobj.mem k n1 mo1 hm1
                have j4 := (MO.holds_ren hag').2 j3
                cases s with
                | none => exact ⟨g, m, by simp [j1], by simpa [hr'] using j2, by simpa only [hr'] using j4⟩
                | some n =>
                  have h1 := hf _ (hfresh k c n ((hinv k c (some n)).2 hr')).2
                  have h2 := ho.gens c
                  simp only at h1
                  refine ⟨n + g, m, by simp [j1]; omega, ?_, by simpa only [hr'] using j4⟩
                  simp only [hr']
                  rw [List.getElem?_append_right (by omega)]
                  rw [← j2]; congr 1; omega
        apart := fun c c' b hne h1 h2 => by
          cases hr : ρ' c with
          | none =>
            cases hr' : ρ' c' with
            | none => simp [hr] at h1; simp [hr'] at h2; exact ho.apart c c' b hne h1 h2
            | some ks =>
              obtain ⟨k, s⟩ := ks
              simp [hr] at h1; simp [hr'] at h2
              rcases fresh2 hr' h2 with h3 | ⟨c2, h3, h4⟩
              · have := ho.own c b h1; omega
              · exact ho.apart c c2 b (fun e => by subst e; exact h3 hr) h1 h4
          | some ks =>
            obtain ⟨k, s⟩ := ks
            cases hr' : ρ' c' with
            | none =>
              simp [hr] at h1; simp [hr'] at h2
              rcases fresh2 hr h1 with h3 | ⟨c2, h3, h4⟩
              · have := ho.own c' b h2; omega
              · exact ho.apart c' c2 b (fun e => by subst e; exact h3 hr') h2 h4
            | some ks' =>
              obtain ⟨k', s'⟩ := ks'
              simp [hr] at h1; simp [hr'] at h2
              refine hobj.apart k k' b (fun e => hne ?_) h1 h2
              subst e
              have e1 := (hinv k c s).2 hr
              have e2 := (hinv k c' s').2 hr'
              rw [e1] at e2; simp at e2; exact e2.1
        stab := fun c b hb hs => by
          cases hr : ρ' c with
          | none =>
            simp [hr] at hb
            rcases k2 b hs with h1 | h1 | ⟨k, h1⟩
            · exact ho.stab c b hb h1
            · have := ho.own c b hb; omega
            · cases hrk : ρ k with
              | none => simp [hrk] at h1
              | some cs =>
                obtain ⟨c', s⟩ := cs
                cases s with
                | some n => simp [hrk] at h1
                | none =>
                  simp [hrk] at h1
                  refine ho.apart c c' b (fun e => ?_) hb h1
                  subst e
                  rw [(hinv k c none).1 hrk] at hr; cases hr
          | some ks =>
            obtain ⟨k, s⟩ := ks
            simp [hr] at hb
            exact hobj.stab k b hb hs
        own := fun c b hb => by
          cases hr : ρ' c with
          | none => simp [hr] at hb; exact Nat.lt_of_lt_of_le (ho.own c b hb) k5.size
          | some ks => obtain ⟨k, s⟩ := ks; simp [hr] at hb; exact hobj.own k b hb
        sbd := hobj.sbd }
    · intro b hb
      rcases k2 b hb with h1 | h1 | ⟨k, h1⟩
      · exact .inl h1
      · exact .inr (.inl h1)
      · exact .inr (.inr (ob h1))
    · intro c b hb
      cases hr : ρ' c with
      | none => simp [hr] at hb; exact .inl hb
      | some ks =>
        obtain ⟨k, s⟩ := ks
        simp [hr] at hb
        rcases k3 k b hb with h1 | ⟨k', h1⟩
        · exact .inr (.inl h1)
        · exact .inr (.inr (ob h1))
    · intro c g x hx
      cases hr' : ρ' c with
      | none => simpa [hr'] using hx
      | some ks =>
        obtain ⟨k, s⟩ := ks
        cases s with
        | none =>
          have h1 := (hinv k c none).2 hr'
          simp only [hr']
          exact k4 k g x (by simpa [h1] using hx)
        | some n =>
          simp only [hr']
          rw [List.getElem?_append_left (List.getElem?_eq_some_iff.1 hx).1]; exact hx
    · exact ⟨k5.os, k5.tape, k5.output, k5.size, fun b hb hn => k5.block b hb fun ⟨k, hk⟩ => hn (ob hk)⟩
end Go.Aw
