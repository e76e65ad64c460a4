/- THE ABSTRACT WALK, part 12: calls that are lent one object, or make one; steps in drawn regions that write. -/
import Derived.Test.YtbhcdkhejgkhaaaCoreK
namespace Go.Aw
open Go Go.RowKit
set_option linter.unusedVariables false
set_option linter.unusedSimpArgs false

/-- a contract with objects, found by the function's number, the arguments' form and the objects' -/
class OC (P : Program) (f : FuncId) (args : List AV) (lent : List (Nat × (Nat × Option MO))) (fresh : List (Nat × Nat)) (pre : outParam Prop) (r : outParam AV) (upds : outParam (List (Nat × (Nat × Option MO)))) : Prop where
  call : pre → OCAt P f args lent fresh r upds
/-- the first own object to which an argument points -/
class PtrIn (l : List AV) (c : outParam Nat) : Prop where
  t : True
instance (priority := low) {a : AV} {l : List AV} {c : Nat} [PtrIn l c] : PtrIn (a :: l) c := ⟨trivial⟩
instance (priority := high) {c g off : Nat} {l : List AV} : PtrIn (.s (.one (.ptr c g off)) :: l) c := ⟨trivial⟩

def rn1 (c : Nat) : Rn := fun k => if k = 1000 then some (c, none) else none
def rnF (q c n : Nat) : Rn := fun k => if k = q then some (c, some n) else none
theorem OCall.one {P : Program} {f : FuncId} {args : List AV} {n : Nat} {mo : MO} {r : AV} {m1 : Nat × Option MO} (h : OCall P f args (memL [(1000, (n, some mo))]) r (memL [(1000, m1)])) (c : Nat) :
    OCAt P f (args.map (AV.ren (rn1 c))) [(c, (n, some (mo.ren (rn1 c))))] [] (r.ren (rn1 c)) [(c, (m1.1, m1.2.map (MO.ren (rn1 c))))] := by
  refine ocat_of (rn1 c) (fun x => if x = c then some (1000, none) else none) h ?_ ?_ ?_ ?_ ?_ ?_
  · intro k c' s
    unfold rn1
    by_cases hk : k = 1000 <;> by_cases hc : c' = c <;> simp [hk, hc] <;> (first | (intro e; exact absurd e.symm hc) | (intro e; exact absurd e.symm hk) | skip)
  · intro k c' hk
    unfold rn1 at hk
    split at hk
    · simp at hk; subst hk; rename_i h1; subst h1; simp [memL]
    · cases hk
  · intro k c' n' hk
    unfold rn1 at hk
    split at hk <;> simp at hk
  · intro k hk
    unfold rn1 at hk
    split at hk
    · cases hk
    · rename_i h1; simp [memL, h1]
  · intro c' k s hc
    split at hc
    · rename_i h1; subst h1; simp at hc; obtain ⟨rfl, rfl⟩ := hc
      exact ⟨by simp [kIn], fun mem => by simp [putsM, memL]⟩
    · cases hc
  · intro c' hc
    split at hc
    · cases hc
    · rename_i h1; simp only [kIn, Bool.or_false]; exact Bool.eq_false_iff.2 fun hb => h1 (Nat.eq_of_beq_eq_true hb)
theorem OCall.fresh1 {P : Program} {f : FuncId} {args : List AV} {r : AV} {m1 : Nat × Option MO} {q : Nat} (h : OCall P f args (fun _ => (0, none)) r (memL [(q, m1)])) (c n : Nat) :
    OCAt P f (args.map (AV.ren (rnF q c n))) [] [(c, n)] (r.ren (rnF q c n)) [(c, (n + m1.1, m1.2.map (MO.ren (rnF q c n))))] := by
  refine ocat_of (rnF q c n) (fun x => if x = c then some (q, some n) else none) h ?_ ?_ ?_ ?_ ?_ ?_
  · intro k c' s
    unfold rnF
    by_cases hk : k = q <;> by_cases hc : c' = c <;> simp [hk, hc] <;> (first | (intro e; exact absurd e.symm hc) | (intro e; exact absurd e.symm hk) | skip)
  · intro k c' hk
    unfold rnF at hk
    split at hk <;> simp at hk
  · intro k c' n' hk
    unfold rnF at hk
    split at hk
    · simp at hk; obtain ⟨rfl, rfl⟩ := hk; simp
    · cases hk
  · intro k hk
    unfold rnF at hk
    split at hk
    · cases hk
    · rename_i h1; simp [memL, h1]
  · intro c' k s hc
    split at hc
    · rename_i h1; subst h1; simp at hc; obtain ⟨rfl, rfl⟩ := hc
      exact ⟨by simp [kIn], fun mem => by simp [putsM, memL]⟩
    · cases hc
  · intro c' hc
    split at hc
    · cases hc
    · rename_i h1; simp only [kIn, Bool.or_false]; exact Bool.eq_false_iff.2 fun hb => h1 (Nat.eq_of_beq_eq_true hb)

theorem rows_get {α : Type} [Inhabited α] {f : α → List PVal} {l : List α} {i : Int} (h0 : 0 ≤ i) (h : i < l.length) : (l.map f)[i.toNat]? = some (f (l.getD i.toNat default)) := by
  have : i.toNat < l.length := by omega
  rw [List.getElem?_map, List.getD_eq_getElem?_getD, List.getElem?_eq_getElem this]; rfl
theorem u64_in {n : Int} (h : 0 ≤ n ∧ n < 18446744073709551616) : IntKind.u64.wrap n = n := by simp [IntKind.wrap, IntKind.bits, IntKind.signed]; omega
theorem u32_in {n : Int} (h : 0 ≤ n ∧ n < 4294967296) : IntKind.u32.wrap n = n := by simp [IntKind.wrap, IntKind.bits, IntKind.signed]; omega
theorem u16_in {n : Int} (h : 0 ≤ n ∧ n < 65536) : IntKind.u16.wrap n = n := by simp [IntKind.wrap, IntKind.bits, IntKind.signed]; omega
theorem u8_in {n : Int} (h : 0 ≤ n ∧ n < 256) : IntKind.u8.wrap n = n := by simp [IntKind.wrap, IntKind.bits, IntKind.signed]; omega

theorem lop_len_map {C : Ctx} {o : Oper} {σ : St} {T e : TypeId} {x : Operand} {sz by_ : Nat} [hT : TI C.P T (.slice e) sz by_] {es : Nat} {α : Type} {l : List α} {f : α → List PVal} {ex : Bool} (ho : o.op = .call ⟨.builtin .len, #[x], #[T]⟩) (hx : σ.look x = .p (.sl es (l.map f) ex)) (hd : dOk C o.dst = true) :
    LOp C o σ ⟨.p (.v (.int .i64 l.length)), []⟩ (fun _ => false) := by
  have := lop_len_sl (o := o) (hT := hT) ho hx hd
  simpa using this

theorem lop_ix_sl {C : Ctx} {o : Oper} {σ : St} {T e : TypeId} {x ix : Operand} {sz by_ : Nat} {ke : TK} {sze be : Nat} {rows : List (List PVal)} {ex : Bool} {k : IntKind} {i : Int} {row : List PVal}
    (ho : o.op = .indexAddr T x ix) (hT : TI C.P T (.slice e) sz by_) (he : TI C.P e ke sze be) (hx : σ.look x = .p (.sl sze rows ex)) (hi : σ.look ix = .p (.v (.int k i))) (h0 : 0 ≤ i) (hb : rows[i.toNat]? = some row) (hd : dOk C o.dst = true) : LOp C o σ ⟨.p (.at_ row), []⟩ (fun _ => false) := lop_indexAddr_sl ho hx hi h0 hb hd
theorem lop_ld_at1 {C : Ctx} {o : Oper} {σ : St} {T : TypeId} {x : Operand} {k : TK} {sz by_ : Nat} {row : List PVal} {p : PVal} (ho : o.op = .load T x) (hT : TI C.P T k sz by_) (hx : σ.look x = .p (.at_ row)) (hk : k.agg = false) (hs : sz = 1) (hp : row[0]? = some p) (hd : dOk C o.dst = true) : LOp C o σ ⟨.p p, []⟩ (fun _ => false) := lop_load_at1 ho hx hk hs hp hd

section steps
variable {C : Ctx} {ops : Array Oper} {o : Oper} {rest : List Oper} {K : St → Prop} {σ : St} {e : Eff} {ro : Nat → Bool} {W : List (Nat × Nat)} {i : Nat}
theorem rk_wr {d : Nat} (hg : Guard ops σ o true) (hd' : o.dst = some d) (hd : dOk C o.dst = true) (h : LOp C o σ e ro) (hro : ∀ x, ro x = true → okObj ops W i x = true) (hob : ∀ p ∈ e.obj, (i, p.1) ∈ W) (hk : RunK C ops W (i + 1) rest K (e.app (some d) σ)) : RunK C ops W i (o :: rest) K σ := by
  rw [← hd'] at hk; exact ⟨_, .inl ⟨hg, hd, ro, h, hro, fun x m hx => hob (x, m) hx⟩, hk⟩
theorem ro_none {x : Nat} : (fun _ : Nat => false) x = true → okObj ops W i x = true := fun h => by cases h
theorem ro_one {c : Nat} (h : okObj ops W i c = true) : ∀ x, (fun y : Nat => y == c) x = true → okObj ops W i x = true := fun x hx => by
  have : x = c := by simpa using hx
  rw [this]; exact h
theorem ro_kIn : ∀ {l : List (Nat × (Nat × Option MO))}, (∀ p ∈ l, okObj ops W i p.1 = true) → ∀ x, kIn l x = true → okObj ops W i x = true
  | [], _, x, hx => by cases hx
  | p :: l, h, x, hx => by
    obtain ⟨k, m⟩ := p
    simp only [kIn, Bool.or_eq_true] at hx
    rcases hx with hx | hx
    · rw [Nat.eq_of_beq_eq_true hx]; exact h (k, m) (by simp)
    · exact ro_kIn (fun p hp => h p (by simp [hp])) x hx
theorem lop_oc1 {f : FuncId} {x0 : Operand} {ts : Array TypeId} {a0 r : AV} {c n : Nat} {mo : MO} {pre : Prop} {upds : List (Nat × (Nat × Option MO))} (ho : o.op = .call ⟨.value (.func f), #[x0], ts⟩) (hfn : FnT C.P f) (h0 : σ.look x0 = a0) (hp : PtrIn [a0] c) (hm : σ.mem c = (n, some mo)) (hc : OC C.P f [a0] [(c, (n, some mo))] [] pre r upds) (hpre : pre) (hsub : kIn upds c = true) (hd : dOk C o.dst = true) :
    LOp C o σ ⟨r, upds⟩ (kIn upds) :=
  lop_ocall ho hfn (.cons h0 (.nil)) (hc.call hpre) (fun p hp => by simp at hp; subst hp; exact hm) (fun p hp => by simp at hp) (fun p hp => by simp at hp; subst hp; exact hsub) (fun p hp => by simp at hp) hd
theorem lop_oc2 {f : FuncId} {x0 x1 : Operand} {ts : Array TypeId} {a0 a1 r : AV} {c n : Nat} {mo : MO} {pre : Prop} {upds : List (Nat × (Nat × Option MO))} (ho : o.op = .call ⟨.value (.func f), #[x0, x1], ts⟩) (hfn : FnT C.P f) (h0 : σ.look x0 = a0) (h1 : σ.look x1 = a1) (hp : PtrIn [a0, a1] c) (hm : σ.mem c = (n, some mo)) (hc : OC C.P f [a0, a1] [(c, (n, some mo))] [] pre r upds) (hpre : pre) (hsub : kIn upds c = true) (hd : dOk C o.dst = true) :
    LOp C o σ ⟨r, upds⟩ (kIn upds) :=
  lop_ocall ho hfn (.cons h0 (.cons h1 (.nil))) (hc.call hpre) (fun p hp => by simp at hp; subst hp; exact hm) (fun p hp => by simp at hp) (fun p hp => by simp at hp; subst hp; exact hsub) (fun p hp => by simp at hp) hd
theorem lop_oc3 {f : FuncId} {x0 x1 x2 : Operand} {ts : Array TypeId} {a0 a1 a2 r : AV} {c n : Nat} {mo : MO} {pre : Prop} {upds : List (Nat × (Nat × Option MO))} (ho : o.op = .call ⟨.value (.func f), #[x0, x1, x2], ts⟩) (hfn : FnT C.P f) (h0 : σ.look x0 = a0) (h1 : σ.look x1 = a1) (h2 : σ.look x2 = a2) (hp : PtrIn [a0, a1, a2] c) (hm : σ.mem c = (n, some mo)) (hc : OC C.P f [a0, a1, a2] [(c, (n, some mo))] [] pre r upds) (hpre : pre) (hsub : kIn upds c = true) (hd : dOk C o.dst = true) :
    LOp C o σ ⟨r, upds⟩ (kIn upds) :=
  lop_ocall ho hfn (.cons h0 (.cons h1 (.cons h2 (.nil)))) (hc.call hpre) (fun p hp => by simp at hp; subst hp; exact hm) (fun p hp => by simp at hp) (fun p hp => by simp at hp; subst hp; exact hsub) (fun p hp => by simp at hp) hd
theorem lop_oc4 {f : FuncId} {x0 x1 x2 x3 : Operand} {ts : Array TypeId} {a0 a1 a2 a3 r : AV} {c n : Nat} {mo : MO} {pre : Prop} {upds : List (Nat × (Nat × Option MO))} (ho : o.op = .call ⟨.value (.func f), #[x0, x1, x2, x3], ts⟩) (hfn : FnT C.P f) (h0 : σ.look x0 = a0) (h1 : σ.look x1 = a1) (h2 : σ.look x2 = a2) (h3 : σ.look x3 = a3) (hp : PtrIn [a0, a1, a2, a3] c) (hm : σ.mem c = (n, some mo)) (hc : OC C.P f [a0, a1, a2, a3] [(c, (n, some mo))] [] pre r upds) (hpre : pre) (hsub : kIn upds c = true) (hd : dOk C o.dst = true) :
    LOp C o σ ⟨r, upds⟩ (kIn upds) :=
  lop_ocall ho hfn (.cons h0 (.cons h1 (.cons h2 (.cons h3 (.nil))))) (hc.call hpre) (fun p hp => by simp at hp; subst hp; exact hm) (fun p hp => by simp at hp) (fun p hp => by simp at hp; subst hp; exact hsub) (fun p hp => by simp at hp) hd
theorem lop_oc5 {f : FuncId} {x0 x1 x2 x3 x4 : Operand} {ts : Array TypeId} {a0 a1 a2 a3 a4 r : AV} {c n : Nat} {mo : MO} {pre : Prop} {upds : List (Nat × (Nat × Option MO))} (ho : o.op = .call ⟨.value (.func f), #[x0, x1, x2, x3, x4], ts⟩) (hfn : FnT C.P f) (h0 : σ.look x0 = a0) (h1 : σ.look x1 = a1) (h2 : σ.look x2 = a2) (h3 : σ.look x3 = a3) (h4 : σ.look x4 = a4) (hp : PtrIn [a0, a1, a2, a3, a4] c) (hm : σ.mem c = (n, some mo)) (hc : OC C.P f [a0, a1, a2, a3, a4] [(c, (n, some mo))] [] pre r upds) (hpre : pre) (hsub : kIn upds c = true) (hd : dOk C o.dst = true) :
    LOp C o σ ⟨r, upds⟩ (kIn upds) :=
  lop_ocall ho hfn (.cons h0 (.cons h1 (.cons h2 (.cons h3 (.cons h4 (.nil)))))) (hc.call hpre) (fun p hp => by simp at hp; subst hp; exact hm) (fun p hp => by simp at hp) (fun p hp => by simp at hp; subst hp; exact hsub) (fun p hp => by simp at hp) hd
theorem lop_oc6 {f : FuncId} {x0 x1 x2 x3 x4 x5 : Operand} {ts : Array TypeId} {a0 a1 a2 a3 a4 a5 r : AV} {c n : Nat} {mo : MO} {pre : Prop} {upds : List (Nat × (Nat × Option MO))} (ho : o.op = .call ⟨.value (.func f), #[x0, x1, x2, x3, x4, x5], ts⟩) (hfn : FnT C.P f) (h0 : σ.look x0 = a0) (h1 : σ.look x1 = a1) (h2 : σ.look x2 = a2) (h3 : σ.look x3 = a3) (h4 : σ.look x4 = a4) (h5 : σ.look x5 = a5) (hp : PtrIn [a0, a1, a2, a3, a4, a5] c) (hm : σ.mem c = (n, some mo)) (hc : OC C.P f [a0, a1, a2, a3, a4, a5] [(c, (n, some mo))] [] pre r upds) (hpre : pre) (hsub : kIn upds c = true) (hd : dOk C o.dst = true) :
    LOp C o σ ⟨r, upds⟩ (kIn upds) :=
  lop_ocall ho hfn (.cons h0 (.cons h1 (.cons h2 (.cons h3 (.cons h4 (.cons h5 (.nil))))))) (hc.call hpre) (fun p hp => by simp at hp; subst hp; exact hm) (fun p hp => by simp at hp) (fun p hp => by simp at hp; subst hp; exact hsub) (fun p hp => by simp at hp) hd
theorem lop_of0 {f : FuncId} {ts : Array TypeId} { r : AV} {d n : Nat} {mo0 : Option MO} {pre : Prop} {upds : List (Nat × (Nat × Option MO))} (ho : o.op = .call ⟨.value (.func f), #[], ts⟩) (hfn : FnT C.P f) (hdst : o.dst = some d)  (hm : σ.mem d = (n, mo0)) (hc : OC C.P f [] [] [(d, n)] pre r upds) (hpre : pre) (hsub : kIn upds d = true) (hd : dOk C o.dst = true) :
    LOp C o σ ⟨r, upds⟩ (kIn upds) :=
  lop_ocall ho hfn (.nil) (hc.call hpre) (fun p hp => by simp at hp) (fun p hp => by simp at hp; subst hp; rw [hm]) (fun p hp => by simp at hp) (fun p hp => by simp at hp; subst hp; exact hsub) hd
theorem lop_of1 {f : FuncId} {x0 : Operand} {ts : Array TypeId} {a0 r : AV} {d n : Nat} {mo0 : Option MO} {pre : Prop} {upds : List (Nat × (Nat × Option MO))} (ho : o.op = .call ⟨.value (.func f), #[x0], ts⟩) (hfn : FnT C.P f) (hdst : o.dst = some d) (h0 : σ.look x0 = a0) (hm : σ.mem d = (n, mo0)) (hc : OC C.P f [a0] [] [(d, n)] pre r upds) (hpre : pre) (hsub : kIn upds d = true) (hd : dOk C o.dst = true) :
    LOp C o σ ⟨r, upds⟩ (kIn upds) :=
  lop_ocall ho hfn (.cons h0 (.nil)) (hc.call hpre) (fun p hp => by simp at hp) (fun p hp => by simp at hp; subst hp; rw [hm]) (fun p hp => by simp at hp) (fun p hp => by simp at hp; subst hp; exact hsub) hd
theorem lop_of2 {f : FuncId} {x0 x1 : Operand} {ts : Array TypeId} {a0 a1 r : AV} {d n : Nat} {mo0 : Option MO} {pre : Prop} {upds : List (Nat × (Nat × Option MO))} (ho : o.op = .call ⟨.value (.func f), #[x0, x1], ts⟩) (hfn : FnT C.P f) (hdst : o.dst = some d) (h0 : σ.look x0 = a0) (h1 : σ.look x1 = a1) (hm : σ.mem d = (n, mo0)) (hc : OC C.P f [a0, a1] [] [(d, n)] pre r upds) (hpre : pre) (hsub : kIn upds d = true) (hd : dOk C o.dst = true) :
    LOp C o σ ⟨r, upds⟩ (kIn upds) :=
  lop_ocall ho hfn (.cons h0 (.cons h1 (.nil))) (hc.call hpre) (fun p hp => by simp at hp) (fun p hp => by simp at hp; subst hp; rw [hm]) (fun p hp => by simp at hp) (fun p hp => by simp at hp; subst hp; exact hsub) hd
theorem lop_of3 {f : FuncId} {x0 x1 x2 : Operand} {ts : Array TypeId} {a0 a1 a2 r : AV} {d n : Nat} {mo0 : Option MO} {pre : Prop} {upds : List (Nat × (Nat × Option MO))} (ho : o.op = .call ⟨.value (.func f), #[x0, x1, x2], ts⟩) (hfn : FnT C.P f) (hdst : o.dst = some d) (h0 : σ.look x0 = a0) (h1 : σ.look x1 = a1) (h2 : σ.look x2 = a2) (hm : σ.mem d = (n, mo0)) (hc : OC C.P f [a0, a1, a2] [] [(d, n)] pre r upds) (hpre : pre) (hsub : kIn upds d = true) (hd : dOk C o.dst = true) :
    LOp C o σ ⟨r, upds⟩ (kIn upds) :=
  lop_ocall ho hfn (.cons h0 (.cons h1 (.cons h2 (.nil)))) (hc.call hpre) (fun p hp => by simp at hp) (fun p hp => by simp at hp; subst hp; rw [hm]) (fun p hp => by simp at hp) (fun p hp => by simp at hp; subst hp; exact hsub) hd
theorem lop_of4 {f : FuncId} {x0 x1 x2 x3 : Operand} {ts : Array TypeId} {a0 a1 a2 a3 r : AV} {d n : Nat} {mo0 : Option MO} {pre : Prop} {upds : List (Nat × (Nat × Option MO))} (ho : o.op = .call ⟨.value (.func f), #[x0, x1, x2, x3], ts⟩) (hfn : FnT C.P f) (hdst : o.dst = some d) (h0 : σ.look x0 = a0) (h1 : σ.look x1 = a1) (h2 : σ.look x2 = a2) (h3 : σ.look x3 = a3) (hm : σ.mem d = (n, mo0)) (hc : OC C.P f [a0, a1, a2, a3] [] [(d, n)] pre r upds) (hpre : pre) (hsub : kIn upds d = true) (hd : dOk C o.dst = true) :
    LOp C o σ ⟨r, upds⟩ (kIn upds) :=
  lop_ocall ho hfn (.cons h0 (.cons h1 (.cons h2 (.cons h3 (.nil))))) (hc.call hpre) (fun p hp => by simp at hp) (fun p hp => by simp at hp; subst hp; rw [hm]) (fun p hp => by simp at hp) (fun p hp => by simp at hp; subst hp; exact hsub) hd
theorem lop_of5 {f : FuncId} {x0 x1 x2 x3 x4 : Operand} {ts : Array TypeId} {a0 a1 a2 a3 a4 r : AV} {d n : Nat} {mo0 : Option MO} {pre : Prop} {upds : List (Nat × (Nat × Option MO))} (ho : o.op = .call ⟨.value (.func f), #[x0, x1, x2, x3, x4], ts⟩) (hfn : FnT C.P f) (hdst : o.dst = some d) (h0 : σ.look x0 = a0) (h1 : σ.look x1 = a1) (h2 : σ.look x2 = a2) (h3 : σ.look x3 = a3) (h4 : σ.look x4 = a4) (hm : σ.mem d = (n, mo0)) (hc : OC C.P f [a0, a1, a2, a3, a4] [] [(d, n)] pre r upds) (hpre : pre) (hsub : kIn upds d = true) (hd : dOk C o.dst = true) :
    LOp C o σ ⟨r, upds⟩ (kIn upds) :=
  lop_ocall ho hfn (.cons h0 (.cons h1 (.cons h2 (.cons h3 (.cons h4 (.nil)))))) (hc.call hpre) (fun p hp => by simp at hp) (fun p hp => by simp at hp; subst hp; rw [hm]) (fun p hp => by simp at hp) (fun p hp => by simp at hp; subst hp; exact hsub) hd
end steps
end Go.Aw
