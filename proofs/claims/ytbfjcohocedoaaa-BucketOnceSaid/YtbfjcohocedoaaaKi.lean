/- THE ABSTRACT WALK, part 28: a function's value of whose captured variables one is an own object, and turns; a range over it. Nothing here speaks of a program. -/
import Derived.Test.YtbfjcohocedoaaaKh
namespace Go.Aw
open Go Go.RowKit
set_option linter.unusedVariables false
set_option linter.unusedSimpArgs false

theorem pcells_mono {μ μ' : Mu} {X Y : Wd} {ps : List PVal} {vs : List Value} (h : All2 (AC.holds μ X) (ps.map .p) vs) (hl : X.le Y) : All2 (AC.holds μ' Y) (ps.map .p) vs := by
  refine ⟨h.1, fun i c v hc hv => ?_⟩
  have h1 := h.2 i c v hc hv
  rw [List.getElem?_map] at hc
  cases hp : ps[i]? with
  | none => rw [hp] at hc; cases hc
  | some p => rw [hp] at hc; simp at hc; subst hc; exact p.mono hl h1
theorem all2_p {X : Wd} {μ : Mu} {ps : List PVal} {vs : List Value} (h : All2 (fun p c => p.holds X c) ps vs) : All2 (AV.holds μ X) (ps.map .p) vs := by
  refine ⟨by simpa using h.1, fun i c v hc hv => ?_⟩
  rw [List.getElem?_map] at hc
  cases hp : ps[i]? with
  | none => rw [hp] at hc; cases hc
  | some p => rw [hp] at hc; simp at hc; subst hc; exact h.2 i p v hp hv

/-- of an object's blocks nothing more is said -/
theorem RelG.drop {C : Ctx} {σ : St} {a : Act} {w : World} {G : Gh} (h : RelG C σ a w G) {o n : Nat} {mo : Option MO} (hm : σ.mem o = (n, mo)) :
    RelG C (σ.put o (n, none)) a w ⟨G.μ, G.S, fun x => if x = o then [] else G.φ x⟩ where
  size := h.size
  defers := fun d hd => by
    obtain ⟨b, rfl, h1, h2, h3, h4, h5⟩ := h.defers d hd
    refine ⟨b, rfl, h1, h2, h3, h4, fun x hx => ?_⟩
    by_cases e : x = o <;> simp only [e, if_true, if_false] at hx
    · cases hx
    · exact h5 x hx
  dnod := h.dnod
  mle := h.mle
  env := h.env
  gens := fun x => by
    by_cases e : x = o
    · subst e; have := h.gens x; rw [hm] at this; simpa [St.put] using this
    · simpa [St.put, e] using h.gens x
  mem := fun x n' mo' hx => by
    by_cases e : x = o
    · subst e; simp [St.put] at hx
    · simp only [St.put, e, if_false] at hx
      obtain ⟨g, m, k1, k2, k3⟩ := h.mem x n' mo' hx
      exact ⟨g, m, k1, k2, by simpa [e] using k3⟩
  apart := fun x y b hne h1 h2 => by
    by_cases e1 : x = o <;> by_cases e2 : y = o <;> simp [e1, e2] at h1 h2
    exact h.apart x y b hne h1 h2
  stab := fun x b hb => by
    by_cases e : x = o <;> simp [e] at hb
    exact h.stab x b hb
  own := fun x b hb => by
    by_cases e : x = o <;> simp [e] at hb
    exact h.own x b hb
  sbd := h.sbd
  ssub := h.ssub
  fr := h.fr

/-- Ranged over, f (with these captured, and one object that is lent) hands the values xs to the rounds; of the object nothing is known then. -/
def ICallO (P : Program) (f : FuncId) (pre post : List PVal) (n ty : Nat) (ps : List PVal) (xs : List AV) : Prop :=
  ∀ (w : World) (G : Gh) (I : Nat → AObj) (yv : Value) (vs : List Value), ObjG (memL [(1000, (1, some (.abs (I 0)))), (1001, (n + 1, some (.box ty (ps.map .p))))]) w G → yv.oneCell' = true →
    All2 (AV.holds G.μ ⟨w, G.S⟩) (pre.map .p ++ .o (.ptr 1001 n 0) :: post.map .p) vs →
    (∀ k x, xs[k]? = some x → YOk P w (fun b => ∃ o, b ∈ G.φ o) G.S yv x 1000 (1, some (.abs (I k))) (1, some (.abs (I (k + 1))))) →
    Calls P f (yv :: vs).toArray w (OPost (.tup []) (memL [(1000, (1, some (.abs (I xs.length)))), (1001, (n + 1, none))]) w G)

theorem icallO_of {P : Program} {f : FuncId} {fn : Func} {body : Code} {pre post : List PVal} {n ty : Nat} {ps : List PVal} {xs : List AV} (hf : P.funcs[f]? = some fn) (hb : fn.body = some body)
    (h : ∀ w0 F S0 M0 (I : Nat → AObj) (yv : Value), yv.oneCell' = true → (∀ k x, xs[k]? = some x → YOk P w0 F S0 yv x 1000 (1, some (.abs (I k))) (1, some (.abs (I (k + 1))))) →
      AWs ⟨P, w0, F, S0, max (.p (.v yv) :: (pre.map .p ++ .o (.ptr 1001 n 0) :: post.map .p) : List AV).length fn.ntmps, none, M0⟩ [body]
        (RetO P fn (.tup []) (kIn [(1000, (1, some (.abs (I xs.length)))), (1001, (n + 1, none))]) (memL [(1000, (1, some (.abs (I xs.length)))), (1001, (n + 1, none))]))
        ⟨fun t => (.p (.v yv) :: (pre.map .p ++ .o (.ptr 1001 n 0) :: post.map .p) : List AV).getD t .un, memL [(1000, (1, some (.abs (I 0)))), (1001, (n + 1, some (.box ty (ps.map .p))))]⟩) : ICallO P f pre post n ty ps xs := by
  intro w G I yv vs hO hone hcaps hY
  have ha : All2 (AV.holds G.μ ⟨w, G.S⟩) (.p (.v yv) :: (pre.map .p ++ .o (.ptr 1001 n 0) :: post.map .p)) (yv :: vs) := .cons ⟨rfl, hone⟩ hcaps
  exact ocall_at (kIn [(1000, (1, some (.abs (I xs.length)))), (1001, (n + 1, none))]) hf hb (fun o ho => by
    have h1 : o ≠ 1000 := fun e => by subst e; simp [kIn] at ho
    have h2 : o ≠ 1001 := fun e => by subst e; simp [kIn] at ho
    simp [memL, h1, h2]) hO ha (h w (fun b => ∃ o, b ∈ G.φ o) G.S G.μ I yv hone hY)

/-- 'for x := range g { .. }', g's object being lent -/
theorem aws_rangeO {ι : Type} {C : Ctx} {Q : Exit → St → Prop} {σ : St} {k : List Code} {g : Operand} {assign body : Code} {p gf n9 oc gg ty : Nat} {mo9 : Option MO} {pre post ps : List PVal} {xs : List AV} (W M : List Nat) (m : ι → List (Nat × (Nat × Option MO))) (Pk : Nat → ι → Prop) (i₀ : ι)
    (hg : σ.look g = .o (.fn gf oc gg pre post)) (hoc : σ.mem oc = (gg + 1, some (.box ty (ps.map .p)))) (hfn : FnT C.P gf) (hI : ICallO C.P gf pre post gg ty ps xs) (hro : C.ro = none) (hx : ∀ x ∈ xs, PureAV x) (h9 : σ.mem 999 = (n9, mo9)) (hM : memb M 999 = false) (hMo : memb M oc = false) (ho9 : oc ≠ 999) (hm : ∀ i, (m i).all (fun q => memb M q.1) = true) (hp : Nat.ble (p + 1) C.N = true)
    (h0 : Pk 0 i₀) (hm0 : Knows σ.mem (m i₀))
    (hround : ∀ j x, xs[j]? = some x → ∀ i γ (w0 : World) (F S0 : Nat → Prop) (M0 : Mu) (l : Nat) (R R' : MO), Pk j i → AWs ⟨C.P, w0, F, S0, C.N, some l, M0⟩ [assign] (fun e s1 => e = .normal ∧ s1.mem 999 = (n9 + 1, some R) ∧
      AWs ⟨C.P, w0, F, S0, C.N, some l, M0⟩ [body] (fun e s2 => e = .normal ∧ ∃ i' τ, Pk (j + 1) i' ∧ Says ⟨C.P, w0, F, S0, C.N, some l, M0⟩ s2 τ ∧ Fr' ((σ.put oc (gg + 1, none)).put 999 (n9 + 1, some R')) W [] M (m i') τ) (s1.put 999 (n9 + 1, some R')))
      ((((σ.put oc (gg + 1, none)).put 999 (n9 + 1, some R)).fr [] σ.env [] M γ (m i)).set (some p) x))
    (hk : ∀ i γ, Pk xs.length i → AWs C k Q (((σ.put oc (gg + 1, none)).put 999 (n9 + 1, none)).fr [] σ.env [] M γ (m i))) : AWs C (.rangeFunc g #[p] assign body :: k) Q σ := by
  intro a w ⟨G, hG⟩
  refine wpIn_rangeFunc ?_
  intro fn _
  rw [hro]
  obtain ⟨ws, us, bc, cc, hbc, hgv, hws, hus⟩ := look_of hG hg
  have hG0 := hG.drop hoc
  have h9' : (σ.put oc (gg + 1, none)).mem 999 = (n9, mo9) := by simp only [St.put, fun e : 999 = oc => ho9 e.symm, if_false]; rw [if_neg fun e => ho9 e.symm]; exact h9
  have hm0' : Knows (σ.put oc (gg + 1, none)).mem (m i₀) := by
    have key : ∀ (l : List (Nat × (Nat × Option MO))), l.all (fun q => memb M q.1) = true → Knows σ.mem l → Knows (σ.put oc (gg + 1, none)).mem l := by
      intro l hl hkn
      induction hkn with
      | nil => exact .nil
      | cons h hl' ih =>
        simp only [List.all_cons, Bool.and_eq_true] at hl
        refine .cons ?_ (ih hl.2)
        have : ∀ q, memb M q = true → q ≠ oc := fun q hq e => by rw [e, hMo] at hq; cases hq
        simp only [St.put, this _ hl.1, if_false]; exact h
    exact key _ (hm i₀) hm0
  obtain ⟨σ', hσ'⟩ : ∃ σ', σ.put oc (gg + 1, none) = σ' := ⟨_, rfl⟩
  have henv : σ'.env = σ.env := by rw [← hσ']; rfl
  rw [hσ'] at hG0 h9' hm0'
  rw [hσ'] at hround hk
  rw [← henv] at hround hk
  have hoc2 := hG.mem oc _ _ hoc
  have hocown := hG.own oc
  have hocst := hG.stab oc
  have hocap := hG.apart oc
  have hocdef := hG.defers
  have hocgen := hG.gens oc
  rw [hoc] at hocgen
  obtain ⟨μ0, S, φ0⟩ := G
  simp only at hoc2 hocown hocst hocap hocdef hbc hws hus hocgen
  have hsz := hG0.fr.size
  obtain ⟨w1, hw1⟩ : ∃ w1, (w.alloc (.deferred (some []))).alloc (.loop (recOf fn a p assign body w.heap.size .ready)) = w1 := ⟨_, rfl⟩
  obtain ⟨G1, hX, hS1, hφ1⟩ := hG0.enter h9' (recOf fn a p assign body w.heap.size .ready)
  rw [hw1] at hX
  have hw1s : w1.heap.size = w.heap.size + 2 := by rw [← hw1]; simp
  have hold : ∀ b, b < w.heap.size → w1.heap[b]? = w.heap[b]? := fun b hb => by
    rw [← hw1]; exact (Below.heap_alloc _ _ _ (by simp; omega)).trans (Below.heap_alloc _ _ _ hb)
  have hle1 : Wd.le ⟨w, S⟩ ⟨w1, S⟩ := fun b hb => ⟨hb, hold b (hG0.sbd b hb).1⟩
  have hFr1 : Fr C w1 := ⟨by rw [← hw1]; exact hG0.fr.os, by rw [← hw1]; exact ⟨hG0.fr.tape.eq, hG0.fr.tape.le⟩, by rw [← hw1]; exact hG0.fr.output, by omega, fun b hb hF => (hold b (by omega)).trans (hG0.fr.block b hb hF)⟩
  obtain ⟨fp, hfp⟩ := fp_list (w := w1) (φ := G1.φ) fun o c hc => (hX.own o c hc).2
  have hdk : ∀ b, markOf b ∈ a.defers → C.w0.heap.size ≤ b ∧ b < w.heap.size := fun b hb => by
    obtain ⟨c, e, h1, h2, _⟩ := hG0.defers _ hb
    have : b = c := by simpa [markOf] using e
    subst this; exact ⟨h1, h2⟩
  -- the lent object's blocks are none of the frame's
  have hfar : ∀ b, b ∈ fp → b ∈ φ0 oc → False := fun b h1 h2 => by
    obtain ⟨x, hx⟩ := (hfp b).1 h1
    rcases hφ1 x b hx with h3 | h3 | h3
    · by_cases e : x = oc <;> simp only [e, if_true, if_false] at h3
      · cases h3
      · exact hocap x b (fun q => e q.symm) h2 h3
    · have := (hocown b h2).2; omega
    · obtain ⟨c, e, _, _, _, _, h5⟩ := hocdef _ h3
      have : b = c := by simpa [markOf] using e
      subst this; exact h5 oc h2
  have hO : ObjG (memL [(1000, (1, some (.abs (outA C a (between σ' n9 (recM (w.heap.size + 1) w.heap.size a.defers (recOf fn a p assign body w.heap.size .ready)) M m Pk 0))))), (1001, (gg + 1, some (.box ty (ps.map .p))))]) w1 ⟨fun o => if o = 1000 then [(some 0, 0)] else if o = 1001 then μ0 oc else [], S, fun o => if o = 1000 then fp else if o = 1001 then φ0 oc else []⟩ := {
    gens := fun o => by
      by_cases ho : o = 1000
      · simp [memL, ho]
      · by_cases ho' : o = 1001
        · subst ho'; simp [memL, hocgen]
        · simp [memL, ho, ho']
    mem := fun o n mo ho => by
      by_cases hq : o = 1000
      · subst hq
        simp only [memL, if_true, Prod.mk.injEq, Option.some.injEq] at ho
        obtain ⟨rfl, rfl⟩ := ho
        refine ⟨0, (some 0, 0), rfl, by simp, 0, rfl, _, G1, ⟨i₀, h0, Fr'.mk .refl .nil ?_⟩, hX, fun b hb => by rw [hS1] at hb; exact hb, by simpa using hfp⟩
        have key : ∀ (l : List (Nat × (Nat × Option MO))), l.all (fun q => memb M q.1) = true → Knows σ'.mem l → Knows (σ'.put 999 (n9 + 1, some (recM (w.heap.size + 1) w.heap.size a.defers (recOf fn a p assign body w.heap.size .ready)))).mem l := by
          intro l hl hkn
          induction hkn with
          | nil => exact .nil
          | cons h hl' ih =>
            simp only [List.all_cons, Bool.and_eq_true] at hl
            refine .cons ?_ (ih hl.2)
            have : ∀ q, memb M q = true → q ≠ 999 := fun q hq e => by rw [e, hM] at hq; cases hq
            simp only [St.put, this _ hl.1, if_false]; exact h
        exact key _ (hm i₀) hm0'
      · by_cases hq' : o = 1001
        · subst hq'
          simp [memL] at ho
          obtain ⟨rfl, rfl⟩ := ho
          obtain ⟨g', m', j1, j2, b', arr, j3, j4, j5, j6⟩ := hoc2
          refine ⟨g', m', j1, by simpa using j2, b', arr, j3, by simpa using j4, (hold b' (hocown b' (by rw [j4]; simp)).2).trans j5, pcells_mono j6 hle1⟩
        · simp [memL, hq, hq'] at ho
    apart := fun o o' b hne h1 h2 => by
      by_cases e1 : o = 1000
      · subst e1
        by_cases e2 : o' = 1001
        · subst e2; simp at h1 h2; exact hfar b h1 h2
        · have h3 : b ∈ (if o' = 1000 then fp else if o' = 1001 then φ0 oc else []) := h2
          rw [if_neg (fun e => hne e.symm), if_neg e2] at h3; cases h3
      · by_cases e1' : o = 1001
        · subst e1'
          by_cases e2 : o' = 1000
          · subst e2; simp at h1 h2; exact hfar b h2 h1
          · have h3 : b ∈ (if o' = 1000 then fp else if o' = 1001 then φ0 oc else []) := h2
            rw [if_neg e2, if_neg (fun e => hne e.symm)] at h3; cases h3
        · simp [e1, e1'] at h1
    stab := fun o b hb hs => by
      by_cases e : o = 1000
      · simp [e] at hb
        obtain ⟨q, hq⟩ := (hfp b).1 hb
        exact hX.stab q b hq (by rw [hS1]; exact hs)
      · by_cases e' : o = 1001
        · simp [e'] at hb; exact hocst b hb hs
        · simp [e, e'] at hb
    own := fun o b hb => by
      by_cases e : o = 1000
      · simp [e] at hb
        obtain ⟨q, hq⟩ := (hfp b).1 hb
        exact (hX.own q b hq).2
      · by_cases e' : o = 1001
        · simp [e'] at hb; have := (hocown b hb).2; omega
        · simp [e, e'] at hb
    sbd := fun b hb => by have := (hG0.sbd b hb).1; omega }
  have hF1 : ∀ b, (∃ o, b ∈ (if o = 1000 then fp else if o = 1001 then φ0 oc else [])) → C.w0.heap.size ≤ b ∨ C.F b := by
    rintro b ⟨o, ho⟩
    by_cases e : o = 1000
    · simp [e] at ho
      obtain ⟨q, hq⟩ := (hfp b).1 ho
      exact (hX.own q b hq).1
    · by_cases e' : o = 1001
      · simp [e'] at ho; exact (hocown b ho).1
      · simp [e, e'] at ho
  obtain ⟨fnn, k1, k2, k3⟩ := hfn.fn
  have hname : ¬ fnn.name = "runtime.NumGoroutine" := by simpa using k2
  have eg : ∀ (args : Array Value) (w : World), (callFunc gf args).run C.P w = .ok (.enter gf args) w := fun args w => by
    cases hbody : fnn.body with
    | none => simp [hbody] at k3
    | some c => simp [callFunc, program, Sem.run, Sem.run_bind, k1, hbody, pure, hname]
  refine ⟨w.heap.size + 1, [markOf w.heap.size], w1, { target := .fn (.func gf) (ws ++ .pointer (some ⟨bc, 0, none⟩) :: us).toArray, args := #[.func (.yield (w.heap.size + 1)) #[] #[]] }, w1, gf, #[.func (.yield (w.heap.size + 1)) #[] #[]] ++ (ws ++ .pointer (some ⟨bc, 0, none⟩) :: us).toArray, w1, ?_, ?_, ?_, ?_, by simp [fz, Fence.wide], ?_⟩
  · rw [← hw1]; exact run_enterLoop_outer _ _ _ _ _
  · simp only [resolve, hgv]
    simp [go_sem]
  · intro f' _; trivial
  · simp only [invoke]; exact eg _ _
  · have hcall := hI w1 _ (fun j => outA C a (between σ' n9 (recM (w.heap.size + 1) w.heap.size a.defers (recOf fn a p assign body w.heap.size .ready)) M m Pk j)) (.func (.yield (w.heap.size + 1)) #[] #[]) (ws ++ .pointer (some ⟨bc, 0, none⟩) :: us) hO rfl
      (All2.append (all2_p (hws.mono fun q c hq => q.mono hle1 hq)) (.cons ⟨bc, cc, by simpa using hbc, rfl⟩ (all2_p (hus.mono fun q c hq => q.mono hle1 hq))))
      (fun j x hj => by
        have : PureAV x := hx x (List.mem_of_getElem? hj)
        exact yok_round (C := C) (a := a) (σ := σ') (W := W) hFr1 hF1 (fun b hb => (hG0.sbd b hb).2) hM hm hp (hround j x hj))
    have e : #[Value.func (.yield (w.heap.size + 1)) #[] #[]] ++ (ws ++ .pointer (some ⟨bc, 0, none⟩) :: us).toArray = (Value.func (.yield (w.heap.size + 1)) #[] #[] :: (ws ++ .pointer (some ⟨bc, 0, none⟩) :: us)).toArray := by apply Array.toList_inj.1; simp
    rw [e]
    refine (callsIn_wide (n := 0)).2 (hcall.mono ?_)
    rintro e w' ⟨v, G', rfl, _, hO', q1, q2, q3, q4, q5⟩
    obtain ⟨g', mm, _, _, b, _, τ, G2, ⟨i, hPi, hτ⟩, hX2, hS2, hφ2⟩ := hO'.mem 1000 1 _ rfl
    have hFr' : Fr C w' := ⟨q5.os.trans hFr1.os, q5.tape.trans hFr1.tape, q5.output.trans hFr1.output, Nat.le_trans hFr1.size q5.size, fun b hb hF => (q5.block b (Nat.lt_of_lt_of_le hb hFr1.size) fun hc => by
      rcases hF1 b hc with h1 | h1
      · omega
      · exact hF h1).trans (hFr1.block b hb hF)⟩
    have hτ9 : τ.mem 999 = (n9 + 1, some (recM (w.heap.size + 1) w.heap.size a.defers (recOf fn a p assign body w.heap.size .ready))) := by rw [fr_mem hτ (hm i) hM]; simp [St.put]
    obtain ⟨hrel, hl⟩ := hX2.leave (r' := { recOf fn a p assign body w.heap.size .ready with state := .exhausted }) hτ9 hG0.dnod (fun d hd => let ⟨b, e, _⟩ := hG0.defers d hd; ⟨b, e⟩) (fun hc => by have := (hdk _ hc).2; omega) (by omega) (fun hc => by have := (hdk _ hc).2; omega) hFr' (fun b hb => by
      rcases List.mem_cons.1 hb with h1 | h1
      · have : b = w.heap.size := by simpa [markOf] using h1
        omega
      · exact (hdk b h1).1)
    refine ⟨none, _, run_endLoop hl (by simp [recOf]), ?_⟩
    obtain ⟨βτ, γτ, hτe⟩ := hτ
    have hst : τ.put 999 (n9 + 1, none) = (σ'.put 999 (n9 + 1, none)).fr [] σ'.env [] M γτ (m i) := by
      refine st_eq (by rw [hτe]; rfl) (funext fun t => ?_)
      by_cases ht : t = 999
      · subst ht
        have := fr_mem (σ := σ'.put 999 (n9 + 1, none)) (W := []) (M := M) (m := m i) ⟨σ'.env, γτ, rfl⟩ (hm i) hM
        rw [this]; simp [St.put]
      · simp only [St.put, ht, if_false]
        rw [hτe]
        simp only [St.fr]
        refine ovl_mem ?_
        simp [St.put, ht]
    rw [hst] at hrel
    exact ⟨_, hk i γτ hPi, _, hrel⟩

section funcs
variable {C : Ctx} {o : Oper} {σ : St}
theorem cap_holds {l : List Cap} {τ : St} {a : Act} {w : World} {G G' : Gh} (hnd : (l.map (·.o)).Nodup) (h' : RelG C (τ.puts (l.map Cap.upd)) a w G') (e1 : G'.μ = G.μ) {q : Cap} (hqm : q ∈ l) {x : Operand} (hh : (AV.o (.ptr q.o q.n 0)).holds G.μ ⟨w, G.S⟩ (a.eval x)) : (PVal.bx q.ps 0).holds ⟨w, G'.S⟩ (a.eval x) := by
  obtain ⟨b, c, k1, k2⟩ := hh
  have hmem : (τ.puts (l.map Cap.upd)).mem q.o = (q.n + 1, some (.abs (fbx q.ps))) := by
    clear h'
    have : ∀ (l : List Cap), (l.map (·.o)).Nodup → q ∈ l → (τ.puts (l.map Cap.upd)).mem q.o = (q.n + 1, some (.abs (fbx q.ps))) := by
      intro l
      induction l with
      | nil => intro _ hq; cases hq
      | cons r l ih =>
        intro hnd hq
        rw [List.map_cons, List.nodup_cons] at hnd
        rcases List.mem_cons.1 hq with rfl | hq
        · simp [Cap.upd, St.puts, St.put]
        · have hne : q.o ≠ r.o := fun e => hnd.1 (List.mem_map.2 ⟨q, hq, e⟩)
          simp only [List.map_cons, Cap.upd, St.puts, St.put, hne, if_false]
          exact ih hnd.2 hq
    exact this l hnd hqm
  obtain ⟨g', m', j1, j2, b', j3, _, j4, arr, ty, j5, j6⟩ := h'.mem q.o _ _ hmem
  obtain rfl : q.n = g' := by omega
  rw [e1, k1] at j2
  obtain rfl := Option.some.inj j2
  simp only [Option.some.injEq] at j3
  subst j3
  exact ⟨b, arr, ty, k2, j4, j5, j6⟩
/-- one captured variable is an own object, the others rest -/
theorem lop_mfo {f : FuncId} {cs : Array Operand} {c1 c2 : List Operand} {xo : Operand} {oo g : Nat} {l1 l2 : List Cap} (ho : o.op = .makeFunc (.func f) #[] cs) (hcs : cs.toList = c1 ++ xo :: c2) (hxo : σ.look xo = .o (.ptr oo g 0))
    (ha1 : All2 (fun x (q : Cap) => σ.look x = .o (.ptr q.o q.n 0)) c1 l1) (ha2 : All2 (fun x (q : Cap) => σ.look x = .o (.ptr q.o q.n 0)) c2 l2) (hm : ∀ q ∈ l1 ++ l2, σ.mem q.o = (q.n + 1, some (.box q.ty (q.ps.map .p)))) (hnd : ((l1 ++ l2).map (·.o)).Nodup) (hd : dOk C o.dst = true) :
    LOp C o σ ⟨.o (.fn f oo g (l1.map fun q => .bx q.ps 0) (l2.map fun q => .bx q.ps 0)), (l1 ++ l2).map Cap.upd⟩ (fun x => (l1 ++ l2).any fun q => q.o == x) := by
  refine ⟨fun x m h => ?_, fun τ hlk hmm a w ⟨G, h⟩ K Q hK => ?_⟩
  · obtain ⟨q, hq, he⟩ := List.mem_map.1 h
    simp [Cap.upd] at he
    exact List.any_eq_true.2 ⟨q, hq, by simp [he.1]⟩
  · have hm' : ∀ q ∈ l1 ++ l2, τ.mem q.o = (q.n + 1, some (.box q.ty (q.ps.map .p))) := fun q hq => (hmm q.o (List.any_eq_true.2 ⟨q, hq, by simp⟩)).trans (hm q hq)
    obtain ⟨G', h', e1, s1⟩ := freeze_list (l1 ++ l2) hnd hm' h
    refine wpIn_exec (by rw [ho]; intro c h; cases h) ?_
    have hrun : (execOp a.eval o).run C.P w = .ok (.value (.func (.func f) #[] (cs.map a.eval))) w := by
      simp [execOp, ho, Instr.makeFunc]
    rw [hrun, Oper.uponIn_value]
    have hops : ∀ x, x ∈ cs.toList → τ.look x = σ.look x := fun x hx => hlk x (by rw [ho]; simp [Op.operands]; simpa using hx)
    have side : ∀ (c : List Operand) (l : List Cap), (∀ x ∈ c, x ∈ cs.toList) → (∀ q ∈ l, q ∈ l1 ++ l2) → All2 (fun x (q : Cap) => σ.look x = .o (.ptr q.o q.n 0)) c l → All2 (fun p v => p.holds ⟨w, G'.S⟩ v) (l.map fun q => PVal.bx q.ps 0) (c.map a.eval) := by
      intro c l hc hl hcl
      refine ⟨by simpa using hcl.1.symm, fun i p v hp hv => ?_⟩
      rw [List.getElem?_map] at hp hv
      cases hq : l[i]? with
      | none => rw [hq] at hp; cases hp
      | some q =>
        rw [hq] at hp; simp at hp; subst hp
        cases hx : c[i]? with
        | none => rw [hx] at hv; cases hv
        | some x =>
          rw [hx] at hv; simp at hv; subst hv
          have hh := h.look x
          rw [(hops x (hc x (List.mem_of_getElem? hx))).trans (hcl.2 i x q hx hq)] at hh
          exact cap_holds hnd h' e1 (hl q (List.mem_of_getElem? hq)) hh
    have hp := h.look xo
    rw [(hops xo (by rw [hcs]; simp)).trans hxo] at hp
    obtain ⟨b, c, k1, k2⟩ := hp
    refine hK _ _ ⟨_, h'.setv hd ⟨c1.map a.eval, c2.map a.eval, b, c, by rw [e1]; exact k1, ?_, side c1 l1 (fun x hx => by rw [hcs]; simp [hx]) (fun q hq => by simp [hq]) ha1, side c2 l2 (fun x hx => by rw [hcs]; simp [hx]) (fun q hq => by simp [hq]) ha2⟩⟩
    have : cs.map a.eval = (cs.toList.map a.eval).toArray := by rw [← Array.toList_map]
    rw [this, hcs, List.map_append, List.map_cons, k2]
end funcs
end Go.Aw
