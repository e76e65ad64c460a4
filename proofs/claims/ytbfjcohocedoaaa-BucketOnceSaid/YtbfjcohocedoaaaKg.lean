/- THE ABSTRACT WALK, part 26: own slices that are lent; a call that is lent one object and makes another. Nothing here speaks of a program. -/
import Derived.Test.YtbfjcohocedoaaaKf
namespace Go.Aw
open Go Go.RowKit
set_option linter.unusedVariables false
set_option linter.unusedSimpArgs false

instance (priority := high) ptrIn_osl {c g es lo len : Nat} {l : List AV} : PtrIn (.s (.one (.osl c g es lo len)) :: l) c := ⟨trivial⟩
/-- is an own slice nil? -/
theorem lop_osl_eqnil {C : Ctx} {o : Oper} {σ : St} {t e t' : TypeId} {x y : Operand} {sz by_ es ob g len : Nat} (ho : o.op = .binOp .eql t x y t') (hT : TI C.P t (.slice e) sz by_) (hx : σ.look x = .o (.osl ob g es 0 len)) (hm : ∃ n ty rows, σ.mem ob = (n, some (.buf ty es rows)) ∧ n = g + 1) (hy : σ.look y = .p (.v (.slice none 0 0))) (hd : dOk C o.dst = true) :
    LOp C o σ ⟨.p (.qb (len = 0)), []⟩ (fun y => y == ob) :=
  lop_val hd fun τ a w G hl hm' h => by
    obtain ⟨n, ty, rows, hmo, rfl⟩ := hm
    obtain ⟨m, c, p1, p2, p3⟩ := look_of h ((hl x (by simp [ho, Op.operands])).trans hx)
    have e2 := val_of h ((hl y (by simp [ho, Op.operands])).trans hy)
    obtain ⟨g', m', hg, hmm, hes, hmax, hrl, hh⟩ := h.mem ob _ _ (by rw [hm' ob (by simp)]; exact hmo)
    obtain rfl : g = g' := by omega
    rw [p1] at hmm; obtain rfl := Option.some.inj hmm
    simp only at hmax hrl hh
    obtain ⟨d, hdd, hk⟩ := hT.undd
    have : d = .slice e := by cases d <;> simp [TK.of] at hk; rw [hk]
    subst this
    refine ⟨.bool (m.map fun b => (⟨b, 0 * es, none⟩ : Addr)).isNone, ?_, _, rfl, fun hb => ?_⟩
    · have hgd : (eqGuard .eql t x y (.slice (m.map fun b => (⟨b, 0 * es, none⟩ : Addr)) len (c - 0)) (.slice none 0 0)).run C.P w = .ok () w := by
        unfold eqGuard; simp [pure]
      have hr : (binOp .eql t (.slice (m.map fun b => (⟨b, 0 * es, none⟩ : Addr)) len (c - 0)) (.slice none 0 0)).run C.P w = .ok (.bool (m.map fun b => (⟨b, 0 * es, none⟩ : Addr)).isNone) w :=
        Go.Lib.run_eql_slice_nil w t e _ len (c - 0) 0 0 hdd
      simp only [execOp, ho, p3, e2, Sem.run_bind, hgd, Result.andThen_ok, hr, Sem.run_pure]
    · rcases hh with ⟨k1, k2, _⟩ | ⟨b, arr, k1, _⟩
      · omega
      · rw [k1] at hb; simp at hb
/-- an own slice, to an empty exact one -/
theorem lop_ap_exo {C : Ctx} {o : Oper} {σ : St} {α : Type} {f : α → List PVal} {l : List α} {T e ty : TypeId} {x y : Operand} {sz by_ : Nat} {ke : TK} {es be : Nat} {z : List Value} {ob g n len : Nat} (ho : o.op = .call ⟨.builtin .append, #[x, y], #[T, T]⟩) (hT : TI C.P T (.slice e) sz by_) (he : TI C.P e ke es be) (hz : TZ C.P e z) (hx : σ.look x = .p (.sl es [] true)) (hy : σ.look y = .o (.osl ob g es 0 len)) (hm : σ.mem ob = (n, some (.buf ty es (l.map f)))) (hn : n = g + 1)
    (hl : len = l.length) (hzl : z.length = es) (h63 : l.length ≤ maxLen) (hby : l.length * be ≤ 140737488355328) (hd : dOk C o.dst = true) :
    LOp C o σ ⟨.p (.sl es (l.map f) false), []⟩ (fun y => y == ob) := by
  have hs := src_osl (C := C) hy hm hn (by rw [hl]; simp)
  have := lop_append_ex (o := o) (hT := hT) (he := he) (hz := hz) ho hx hs hzl (by simp [hl]; exact h63) (by simpa [hl] using hby) hd
  simpa [hl, List.take_of_length_le] using this
/-- nothing of Int-cells, written out: it grows from now on -/
theorem lop_bzi {C : Ctx} {o : Oper} {σ : St} {T e : TypeId} {sz by_ : Nat} {k : IntKind} {be : Nat} {z : List Value} {d n0 : Nat} {mo0 : Option MO} (ho : o.op = .buildSlice T 0 #[]) (hT : TI C.P T (.slice e) sz by_) (he : TI C.P e (.int k) 1 be) (hz : TZ C.P e z) (hdst : o.dst = some d) (hm0 : σ.mem d = (n0, mo0)) (hd : dOk C o.dst = true) :
    LOp C o σ ⟨.o (.osl d n0 1 0 ([] : List Int).length), [(d, (n0 + 1, some (.buf e 1 (([] : List Int).map fun n => [PVal.v (.int k n)]))))]⟩ (fun q => q == d) := lop_bo0 ho hT he hz hdst hm0 (by decide) hd

/-- the names: object 1000 is the caller's c; object q a new generation of the caller's d -/
def rnL (c q d n : Nat) : Rn := fun k => if k = 1000 then some (c, none) else if k = q then some (d, some n) else none
theorem OCall.lf {P : Program} {f : FuncId} {args : List AV} {n : Nat} {mo : MO} {r : AV} {m1 mq : Nat × Option MO} {q : Nat} (h : OCall P f args (memL [(1000, (n, some mo))]) r (memL [(1000, m1), (q, mq)])) (hq : q ≠ 1000) (c d nd : Nat) (hcd : c ≠ d) :
    OCAt P f (args.map (AV.ren (rnL c q d nd))) [(c, (n, some (mo.ren (rnL c q d nd))))] [(d, nd)] (r.ren (rnL c q d nd)) [(c, (m1.1, m1.2.map (MO.ren (rnL c q d nd)))), (d, (nd + mq.1, mq.2.map (MO.ren (rnL c q d nd))))] := by
  have e1 : rnL c q d nd 1000 = some (c, none) := by simp [rnL]
  have e2 : rnL c q d nd q = some (d, some nd) := by simp [rnL, hq]
  have e3 : ∀ k, k ≠ 1000 → k ≠ q → rnL c q d nd k = none := fun k h1 h2 => by simp [rnL, h1, h2]
  refine ocat_of (rnL c q d nd) (fun x => if x = c then some (1000, none) else if x = d then some (q, some nd) else none) h ?_ ?_ ?_ ?_ ?_ ?_
  · intro k c' s
    by_cases hk : k = 1000
    · subst hk
      rw [e1]
      by_cases h1 : c' = c
      · subst h1; simp
      · by_cases h2 : c' = d
        · subst h2; simp [h1, hq, Ne.symm hcd, hcd]
        · simp [h1, h2, Ne.symm h1]
    · by_cases hkq : k = q
      · subst hkq
        rw [e2]
        by_cases h1 : c' = c
        · subst h1; simp [hq, Ne.symm hq, Ne.symm hcd]
        · by_cases h2 : c' = d
          · subst h2; simp [h1]
          · simp [h1, h2, Ne.symm h2]
      · rw [e3 k hk hkq]
        by_cases h1 : c' = c
        · subst h1; simp [Ne.symm hk]
        · by_cases h2 : c' = d
          · subst h2; simp [h1, Ne.symm hkq]
          · simp [h1, h2]
  · intro k c' hk
    by_cases h1 : k = 1000
    · subst h1; rw [e1] at hk; simp at hk; subst hk; simp [memL]
    · by_cases h2 : k = q
      · subst h2; rw [e2] at hk; simp at hk
      · rw [e3 k h1 h2] at hk; cases hk
  · intro k c' n' hk
    by_cases h1 : k = 1000
    · subst h1; rw [e1] at hk; simp at hk
    · by_cases h2 : k = q
      · subst h2; rw [e2] at hk; simp at hk; obtain ⟨rfl, rfl⟩ := hk; simp [memL, h1]
      · rw [e3 k h1 h2] at hk; cases hk
  · intro k hk
    have h1 : k ≠ 1000 := fun e => by subst e; rw [e1] at hk; cases hk
    have h2 : k ≠ q := fun e => by subst e; rw [e2] at hk; cases hk
    simp [memL, h1, h2]
  · intro c' k s hc
    by_cases h1 : c' = c
    · subst h1
      simp at hc; obtain ⟨rfl, rfl⟩ := hc
      exact ⟨by simp [kIn], fun mem => by simp [putsM, memL]⟩
    · by_cases h2 : c' = d
      · subst h2
        simp [h1] at hc; obtain ⟨rfl, rfl⟩ := hc
        exact ⟨by simp [kIn], fun mem => by simp [putsM, memL, h1, hq]⟩
      · simp [h1, h2] at hc
  · intro c' hc
    by_cases h1 : c' = c
    · simp [h1] at hc
    · by_cases h2 : c' = d
      · rw [if_neg h1, if_pos h2] at hc; cases hc
      · simp only [kIn, Bool.or_false, Bool.or_eq_false_iff]
        exact ⟨Bool.eq_false_iff.2 fun hb => h1 (Nat.eq_of_beq_eq_true hb), Bool.eq_false_iff.2 fun hb => h2 (Nat.eq_of_beq_eq_true hb)⟩
end Go.Aw
