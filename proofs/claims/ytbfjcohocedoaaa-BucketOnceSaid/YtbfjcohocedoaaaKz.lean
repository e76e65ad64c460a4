/- THE ABSTRACT WALK, part 29: do two own slices overlap? Nothing here speaks of a program. -/
import Derived.Test.YtbfjcohocedoaaaKy
import Derived.Laws.Externs
namespace Go.Aw
open Go Go.RowKit
set_option linter.unusedVariables false
set_option linter.unusedSimpArgs false
/-- a function of the library that the model knows: it tells whether two slices overlap -/
class OvF (P : Program) (f : FuncId) (tS tR : TypeId) : Prop where
  fn : ∃ fn, P.funcs[f]? = some fn ∧ (fn.name == "runtime.NumGoroutine") = false ∧ fn.body.isNone = true ∧ Extern.findNext fn = none ∧ Extern.find fn = some (Extern.SlicesOverlaps.overlaps #[tS, tS] #[tR])
theorem shape_of {w : World} {b : Nat} {arr : Array Value} {ty : TypeId} {fr : Nat × Nat} (h : w.heap[b]? = some (.cells arr ty fr)) : w.shape? b = some (ty, arr.size) := by
  unfold World.shape?; rw [h]
theorem frozen_of {w : World} {b off : Nat} {arr : Array Value} {ty : TypeId} (h : w.heap[b]? = some (.cells arr ty (0, 0))) : w.frozen? ⟨b, off, none⟩ = false := by
  unfold World.frozen?; simp only [h]; simp
theorem lop_ovl {C : Ctx} {o : Oper} {σ : St} {f : FuncId} {x y : Operand} {ts : Array TypeId} {tS tR e : TypeId} {sz by_ : Nat} {ke : TK} {es be : Nat} {d gd nd tyd lend : Nat} {ob g off len cap c n ty : Nat} {rowsd rows : List (List PVal)} (hf : OvF C.P f tS tR) (hT : TI C.P tS (.slice e) sz by_) (he : TI C.P e ke es be) (ho : o.op = .call ⟨.value (.func f), #[x, y], ts⟩)
    (hx : σ.look x = .o (.osl d gd es 0 lend)) (hy : σ.look y = .o (.asl ob g off len cap)) (hmd : σ.mem d = (nd, some (.buf tyd es rowsd))) (hnd : nd = gd + 1) (hm : σ.mem ob = (n, some (.abs (bufC ty es c rows)))) (hn : n = g + 1) (hl : 0 < rowsd.length) (hr : 0 < rows.length) (hne : d ≠ ob) (hd : dOk C o.dst = true) :
    LOp C o σ ⟨.p (.v (.bool false)), []⟩ (fun q => q == d || q == ob) :=
  lop_val hd fun τ a w G hl' hm' h => by
    subst hnd hn
    obtain ⟨m1, c1, a1, a2, a3⟩ := look_of h ((hl' x (by simp [ho, Op.operands, Call.operands])).trans hx)
    obtain ⟨b2, c2, b1, b3⟩ := look_of h ((hl' y (by simp [ho, Op.operands, Call.operands])).trans hy)
    obtain ⟨g1, m1', d1, d2, d3, d4, d5, d6⟩ := h.mem d _ _ (by rw [hm' d (by simp)]; exact hmd)
    obtain rfl : gd = g1 := by omega
    rw [a1] at d2; obtain rfl := Option.some.inj d2
    obtain ⟨g2, m2, e1, e2, b, e3, hes, e4, e5, e6, arr, e7, e8, e9⟩ := h.mem ob _ _ (by rw [hm' ob (by simp)]; exact hm)
    obtain rfl : g = g2 := by omega
    rw [b1] at e2; obtain rfl := Option.some.inj e2
    simp only [Option.some.injEq] at e3
    subst e3
    rcases d6 with ⟨q1, q2, q3⟩ | ⟨b', arr', q1, q2, q3, q4, q5⟩
    · simp only at q2 d5; omega
    · simp only at q1; subst q1
      simp only [Option.map_some, Nat.zero_mul, Nat.sub_zero] at a3
      obtain ⟨fn, f1, f2, f3, f4, f5⟩ := hf.fn
      obtain ⟨dd, hdd, hkk⟩ := hT.undd
      have : dd = .slice e := by cases dd <;> simp [TK.of] at hkk; rw [hkk]
      subst this
      have hnb : b' ≠ b2 := fun q => h.apart d ob b' hne (by rw [q2]; simp) (by rw [e6, q]; simp)
      have hk0 : arr.size ≠ 0 := by
        rw [e8]
        have : 0 < c * es := Nat.mul_pos (by omega) hes
        omega
      have hr := Lib.run_overlaps_apart (P := C.P) w tS tR e hdd es he.run_sizeOf ⟨b', 0, none⟩ ⟨b2, off, none⟩ lend c1 len cap hnb tyd ty arr'.size arr.size (shape_of q3) (shape_of e7) hk0 (frozen_of q3) (frozen_of q3)
      have hc := run_callFunc_extern f1 f2 f3 f4 f5 #[.slice (some ⟨b', 0, none⟩) lend c1, .slice (some ⟨b2, off, none⟩) len cap] w
      rw [hr] at hc
      have ef : a.eval (.func f) = .func (.func f) #[] #[] := rfl
      refine ⟨.bool false, ?_, rfl, rfl⟩
      simp only [execOp, ho, resolve, ef, Deferred.ofValue, invoke, program, Sem.run_bind, Sem.run_pure, Result.andThen_ok, List.map_toArray, List.map_cons, List.map_nil, a3, b3]
      simp [hc, pure, Sem.run]
end Go.Aw
