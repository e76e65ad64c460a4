/- THE ABSTRACT WALK, part 27: an own slice, lent to a call that takes slices that stay; an own slice cut. Nothing here speaks of a program. -/
import Derived.Test.YtclcfjejpogdlaaGreatIB13
namespace Go.Aw
open Go Go.RowKit
set_option linter.unusedVariables false
set_option linter.unusedSimpArgs false
/-- what hangs on no block -/
def RV (r : AV) : Prop := ∀ μ X Y v, r.holds μ X v → r.holds μ Y v
theorem RV.v {c : Value} : RV (.p (.v c)) := fun _ _ _ _ h => h
theorem RV.a {cs : List AC} (h : ∀ c ∈ cs, ∃ x, c = .p (.v x)) : RV (.a cs) := by
  rintro μ X Y v ⟨arr, rfl, h1⟩
  refine ⟨arr, rfl, h1.1, fun i c x hc hx => ?_⟩
  obtain ⟨y, rfl⟩ := h c (List.mem_of_getElem? hc)
  exact h1.2 i _ x hc hx
/-- an argument xs0 the callee sees it: an own slice stays while it is lent -/
def Lnd (σ : St) (ob : Nat) (a b : AV) : Prop :=
  Ent a b ∨ ∃ g es n ty rows, a = .o (.osl ob g es 0 rows.length) ∧ σ.mem ob = (n, some (.buf ty es rows)) ∧ n = g + 1 ∧ b = .p (.sl es rows false)
theorem lop_lend {C : Ctx} {o : Oper} {σ : St} {f : FuncId} {xs0 : Array Operand} {ts : Array TypeId} {args : List AV} {r : AV} {ob : Nat} (hfn : FnT C.P f) (ho : o.op = .call ⟨.value (.func f), xs0, ts⟩)
    (hE : All2 (Lnd σ ob) (xs0.toList.map σ.look) args) (hc : PCall C.P f args r) (hr : RV r) (hd : dOk C o.dst = true) : LOp C o σ ⟨r, []⟩ (fun y => y == ob) := by
  refine ⟨fun x m h => by simp at h, fun τ hl hm a w ⟨G, h⟩ K Q hK => ?_⟩
  have hmo : τ.mem ob = σ.mem ob := hm ob (by simp)
  have hE' : All2 (Lnd τ ob) (xs0.toList.map τ.look) args := by
    have : xs0.toList.map τ.look = xs0.toList.map σ.look := List.map_congr_left fun x hx => hl x (by rw [ho]; simp [Op.operands, Call.operands]; right; simpa using hx)
    rw [this]
    refine hE.mono fun a b k => ?_
    unfold Lnd at k ⊢
    rw [hmo]; exact k
  have hS : Wd.le ⟨w, G.S⟩ ⟨w, fun b => G.S b ∨ b ∈ G.φ ob⟩ := fun b hb => ⟨.inl hb, rfl⟩
  have hv : All2 (AV.holds Mu.none ⟨w, fun b => G.S b ∨ b ∈ G.φ ob⟩) args (xs0.toList.map a.eval) := by
    refine ⟨by have := hE'.1; simpa using this.symm, fun i av v hav hvv => ?_⟩
    rw [List.getElem?_map] at hvv
    cases hx : xs0.toList[i]? with
    | none => rw [hx] at hvv; cases hvv
    | some x =>
      rw [hx] at hvv; simp at hvv; subst hvv
      rcases hE'.2 i (τ.look x) av (by simp [List.getElem?_map, hx]) hav with k | ⟨g, es, n, ty, rows, e1, e2, e3, e4⟩
      · exact (k _ _ _ (h.look x)).mono (Mu.le.refl _) hS
      · have hlk := look_of h e1
        obtain ⟨m, c, p1, p2, p3⟩ := hlk
        obtain ⟨g', m', q1, q2, q3, q4, q5, q6⟩ := h.mem ob _ _ e2
        obtain rfl : g = g' := by omega
        rw [p1] at q2
        obtain rfl := Option.some.inj q2
        subst e4
        refine ⟨m.map fun b => (⟨b, 0 * es, none⟩ : Addr), c - 0, p3, by simpa using p2, by simpa using q4, by simp, ?_⟩
        rcases q6 with ⟨r1, r2, _⟩ | ⟨b, arr, r1, r2, r3, r4, r5⟩
        · simp only at r1 r2 p2
          subst r1
          exact ⟨List.eq_nil_of_length_eq_zero (by omega), by simpa using r2⟩
        · simp only at r1
          subst r1
          refine .inr ⟨rfl, .inr (by rw [r2]; simp), arr, ty, (0, 0), r3, fun i row hrow => ⟨(r5 i row hrow).1, fun j p hp => ?_⟩⟩
          obtain ⟨z, hz, hz'⟩ := (r5 i row hrow).2 j p hp
          exact ⟨z, by simpa using hz, p.mono hS hz'⟩
  obtain ⟨fn, h1, h2, h3⟩ := hfn.fn
  have hrun : (execOp a.eval o).run C.P w = .ok (.enter f (xs0.map a.eval)) w := by
    have e1 : a.eval (.func f) = .func (.func f) #[] #[] := rfl
    have hname : (fn.name == "runtime.NumGoroutine") = false := h2
    cases hbody : fn.body with
    | none => simp [hbody] at h3
    | some c => simp [execOp, ho, resolve, e1, Deferred.ofValue, invoke, callFunc, program, Sem.run, Sem.run_bind, h1, hbody, pure, show ¬ fn.name = "runtime.NumGoroutine" from by simpa using hname]
  refine wpIn_exec (by rw [ho]; intro c h; cases h) ?_
  rw [hrun, Oper.uponIn_enter]
  have h9 : Calls C.P f (xs0.toList.map a.eval).toArray w fun
      | .returned v, w'' => K (a.put o.dst v) w''
      | .panicked chain, w'' => Q (.panic chain) a w''
      | .outgrown, _ => LetsOut Q := by
    refine (hc w (fun b => G.S b ∨ b ∈ G.φ ob) _ (fun b hb => hb.elim (fun k => (h.sbd b k).1) fun k => (h.own ob b k).2) hv).mono ?_
    rintro e w' ⟨v, rfl, ⟨S', hS1, hS2, hrr⟩, hb, hdr⟩
    have h1 := h.world (Quiet.of_below hb hdr) (fun b => w.heap.size ≤ b ∧ b < w'.heap.size) (fun b hb => hb)
    exact hK _ _ ⟨_, h1.setv hd ((hr _ _ _ _ hrr).mono (Mu.none_le _) (Wd.le.refl _))⟩
  have e : (xs0.toList.map a.eval).toArray = xs0.map a.eval := by rw [← Array.toList_map]
  rw [e] at h9
  exact ⟨by simp [fz, Fence.wide], (callsIn_wide (n := 0)).2 h9⟩
theorem lop_lend1 {C : Ctx} {o : Oper} {σ : St} {f : FuncId} {x : Operand} {ts : Array TypeId} {r : AV} {pre : Prop} {ob g es n len : Nat} {ty : TypeId} {rows : List (List PVal)} (ho : o.op = .call ⟨.value (.func f), #[x], ts⟩) (hfn : FnT C.P f) (hx : σ.look x = .o (.osl ob g es 0 len)) (hm : σ.mem ob = (n, some (.buf ty es rows))) (hn : n = g + 1) (hl : len = rows.length)
    (hc : PC C.P f [.p (.sl es rows false)] pre r) (hpre : pre) (hr : RV r) (hd : dOk C o.dst = true) : LOp C o σ ⟨r, []⟩ (fun y => y == ob) := by
  subst hl
  exact lop_lend hfn ho (.cons (.inr ⟨g, es, n, ty, rows, hx, hm, hn, rfl⟩) .nil) (hc.call hpre) hr hd
theorem lop_lend2 {C : Ctx} {o : Oper} {σ : St} {f : FuncId} {x y : Operand} {ts : Array TypeId} {r ay : AV} {pre : Prop} {ob g es n len : Nat} {ty : TypeId} {rows : List (List PVal)} (ho : o.op = .call ⟨.value (.func f), #[x, y], ts⟩) (hfn : FnT C.P f) (hx : σ.look x = .o (.osl ob g es 0 len)) (hm : σ.mem ob = (n, some (.buf ty es rows))) (hn : n = g + 1) (hl : len = rows.length)
    (hy : σ.look y = ay) (hp : PureAV ay) (hc : PC C.P f [.p (.sl es rows false), ay] pre r) (hpre : pre) (hr : RV r) (hd : dOk C o.dst = true) : LOp C o σ ⟨r, []⟩ (fun y => y == ob) := by
  subst hl
  exact lop_lend hfn ho (.cons (.inr ⟨g, es, n, ty, rows, hx, hm, hn, rfl⟩) (.cons (.inl (by rw [hy]; exact hp.pure)) .nil)) (hc.call hpre) hr hd
end Go.Aw
