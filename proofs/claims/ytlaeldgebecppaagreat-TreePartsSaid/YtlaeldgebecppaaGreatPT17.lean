/- THE ABSTRACT WALK, part 27: an own slice, lent to a call that takes slices that stay; an own slice cut. Nothing here speaks of a program.; THE ABSTRACT WALK, part 28: own slices whose capacity is known; elements copied into own slices; slices that overlap. Nothing here speaks of a program.; THE ABSTRACT WALK, part 29: do two own slices overlap? Nothing here speaks of a program.; wire: a writer's whole numbers, vectors and texts -/
import Derived.Test.YtlaeldgebecppaaGreatPT15
import Derived.Lib.Overlaps
import Derived.Lib.AppendZerosOnto
import Derived.Laws.Externs
import Derived.Test.YtlaeldgebecppaaGreatPT16
namespace Go.Aw
open Go Go.RowKit
set_option linter.unusedVariables false
set_option linter.unusedSimpArgs false
/-- what hangs on no block -/
def RV (r : AV) : Prop := ∀ μ X Y v, r.holds μ X v → r.holds μ Y v
theorem RV.v {c : Value} : RV (.p (.v c)) := fun _ _ _ _ h => h
theorem RV.a {cs : List AC} (h : ∀ c ∈ cs, ∃ x, c = .p (.v x)) : RV (.a cs) := by
  rintro μ X Y v ⟨arr, rfl, h1⟩
  refine ⟨arr, rfl, h1.1, fun i c x hc hx => ?_⟩
  obtain ⟨y, rfl⟩ := h c (List.mem_of_getElem? hc)
  exact h1.2 i _ x hc hx
/-- an argument xs0 the callee sees it: an own slice stays while it is lent -/
def Lnd (σ : St) (ob : Nat) (a b : AV) : Prop :=
  Ent a b ∨ ∃ g es n ty rows, a = .o (.osl ob g es 0 rows.length) ∧ σ.mem ob = (n, some (.buf ty es rows)) ∧ n = g + 1 ∧ b = .p (.sl es rows false)
theorem lop_lend {C : Ctx} {o : Oper} {σ : St} {f : FuncId} {xs0 : Array Operand} {ts : Array TypeId} {args : List AV} {r : AV} {ob : Nat} (hfn : FnT C.P f) (ho : o.op = .call ⟨.value (.func f), xs0, ts⟩)
    (hE : All2 (Lnd σ ob) (xs0.toList.map σ.look) args) (hc : PCall C.P f args r) (hr : RV r) (hd : dOk C o.dst = true) : LOp C o σ ⟨r, []⟩ (fun y => y == ob) := by
  refine ⟨fun x m h => by simp at h, fun τ hl hm a w ⟨G, h⟩ K Q hK => ?_⟩
  have hmo : τ.mem ob = σ.mem ob := hm ob (by simp)
  have hE' : All2 (Lnd τ ob) (xs0.toList.map τ.look) args := by
    have : xs0.toList.map τ.look = xs0.toList.map σ.look := List.map_congr_left fun x hx => hl x (by rw [ho]; simp [Op.operands, Call.operands]; right; simpa using hx)
    rw [this]
    refine hE.mono fun a b k => ?_
    unfold Lnd at k ⊢
    rw [hmo]; exact k
  have hS : Wd.le ⟨w, G.S⟩ ⟨w, fun b => G.S b ∨ b ∈ G.φ ob⟩ := fun b hb => ⟨.inl hb, rfl⟩
  have hv : All2 (AV.holds Mu.none ⟨w, fun b => G.S b ∨ b ∈ G.φ ob⟩) args (xs0.toList.map a.eval) := by
    refine ⟨by have := hE'.1; simpa using this.symm, fun i av v hav hvv => ?_⟩
    rw [List.getElem?_map] at hvv
    cases hx : xs0.toList[i]? with
    | none => rw [hx] at hvv; cases hvv
    | some x =>
      rw [hx] at hvv; simp at hvv; subst hvv
      rcases hE'.2 i (τ.look x) av (by simp [List.getElem?_map, hx]) hav with k | ⟨g, es, n, ty, rows, e1, e2, e3, e4⟩
      · exact (k _ _ _ (h.look x)).mono (Mu.le.refl _) hS
      · have hlk := look_of h e1
        obtain ⟨m, c, p1, p2, p3⟩ := hlk
        obtain ⟨g', m', q1, q2, q3, q4, q5, q6⟩ := h.mem ob _ _ e2
        obtain rfl : g = g' := by omega
        rw [p1] at q2
        obtain rfl := Option.some.inj q2
        subst e4
        refine ⟨m.map fun b => (⟨b, 0 * es, none⟩ : Addr), c - 0, p3, by simpa using p2, by simpa using q4, by simp, ?_⟩
        rcases q6 with ⟨r1, r2, _⟩ | ⟨b, arr, r1, r2, r3, r4, r5⟩
        · simp only at r1 r2 p2
          subst r1
          exact ⟨List.eq_nil_of_length_eq_zero (by omega), by simpa using r2⟩
        · simp only at r1
          subst r1
          refine .inr ⟨rfl, .inr (by rw [r2]; simp), arr, ty, (0, 0), r3, fun i row hrow => ⟨(r5 i row hrow).1, fun j p hp => ?_⟩⟩
          obtain ⟨z, hz, hz'⟩ := (r5 i row hrow).2 j p hp
          exact ⟨z, by simpa using hz, p.mono hS hz'⟩
  obtain ⟨fn, h1, h2, h3⟩ := hfn.fn
  have hrun : (execOp a.eval o).run C.P w = .ok (.enter f (xs0.map a.eval)) w := by
    have e1 : a.eval (.func f) = .func (.func f) #[] #[] := rfl
    have hname : (fn.name == "runtime.NumGoroutine") = false := h2
    cases hbody : fn.body with
    | none => simp [hbody] at h3
    | some c => simp [execOp, ho, resolve, e1, Deferred.ofValue, invoke, callFunc, program, Sem.run, Sem.run_bind, h1, hbody, pure, show ¬ fn.name = "runtime.NumGoroutine" from by simpa using hname]
  refine wpIn_exec (by rw [ho]; intro c h; cases h) ?_
  rw [hrun, Oper.uponIn_enter]
  have h9 : Calls C.P f (xs0.toList.map a.eval).toArray w fun
      | .returned v, w'' => K (a.put o.dst v) w''
      | .panicked chain, w'' => Q (.panic chain) a w''
      | .outgrown, _ => LetsOut Q := by
    refine (hc w (fun b => G.S b ∨ b ∈ G.φ ob) _ (fun b hb => hb.elim (fun k => (h.sbd b k).1) fun k => (h.own ob b k).2) hv).mono ?_
    rintro e w' ⟨v, rfl, ⟨S', hS1, hS2, hrr⟩, hb, hdr⟩
    have h1 := h.world (Quiet.of_below hb hdr) (fun b => w.heap.size ≤ b ∧ b < w'.heap.size) (fun b hb => hb)
    exact hK _ _ ⟨_, h1.setv hd ((hr _ _ _ _ hrr).mono (Mu.none_le _) (Wd.le.refl _))⟩
  have e : (xs0.toList.map a.eval).toArray = xs0.map a.eval := by rw [← Array.toList_map]
  rw [e] at h9
  exact ⟨by simp [fz, Fence.wide], (callsIn_wide (n := 0)).2 h9⟩
theorem lop_lend2 {C : Ctx} {o : Oper} {σ : St} {f : FuncId} {x y : Operand} {ts : Array TypeId} {r ay : AV} {pre : Prop} {ob g es n len : Nat} {ty : TypeId} {rows : List (List PVal)} (ho : o.op = .call ⟨.value (.func f), #[x, y], ts⟩) (hfn : FnT C.P f) (hx : σ.look x = .o (.osl ob g es 0 len)) (hm : σ.mem ob = (n, some (.buf ty es rows))) (hn : n = g + 1) (hl : len = rows.length)
    (hy : σ.look y = ay) (hp : PureAV ay) (hc : PC C.P f [.p (.sl es rows false), ay] pre r) (hpre : pre) (hr : RV r) (hd : dOk C o.dst = true) : LOp C o σ ⟨r, []⟩ (fun y => y == ob) := by
  subst hl
  exact lop_lend hfn ho (.cons (.inr ⟨g, es, n, ty, rows, hx, hm, hn, rfl⟩) (.cons (.inl (by rw [hy]; exact hp.pure)) .nil)) (hc.call hpre) hr hd
end Go.Aw
namespace Go.Aw
open Go Go.RowKit
set_option linter.unusedVariables false
set_option linter.unusedSimpArgs false
section ops
variable {C : Ctx} {o : Oper} {σ : St}
/-- a slice of so many elements, of which the first ones are known -/
def SrcN (C : Ctx) (σ : St) (x : Operand) (es L : Nat) (news : List (List PVal)) (ro : Nat → Bool) : Prop :=
  ∀ τ a w G, τ.look x = σ.look x → (∀ y, ro y = true → τ.mem y = σ.mem y) → RelG C τ a w G →
    ∃ ad cap, a.eval x = .slice (some ad) L cap ∧ ∀ i row, news[i]? = some row → row.length = es ∧ ∀ j p, row[j]? = some p → ∃ c, w.cell? (ad.add (i * es + j)) = some c ∧ p.holds ⟨w, G.S⟩ c
theorem SrcOk.n {C : Ctx} {σ : St} {x : Operand} {es : Nat} {news : List (List PVal)} {ro : Nat → Bool} (h : SrcOk C σ x es news ro) (h0 : 0 < news.length) : SrcN C σ x es news.length news ro := fun τ a w G h1 h2 hr => by
  obtain ⟨base, cap, e1, e2⟩ := h τ a w G h1 h2 hr
  cases base with
  | none => simp only at e2; rw [e2] at h0; cases h0
  | some ad => exact ⟨ad, cap, e1, e2⟩
end ops
end Go.Aw
namespace Go.Aw
open Go Go.RowKit
set_option linter.unusedVariables false
set_option linter.unusedSimpArgs false
/-- a function of the library that the model knows: it tells whether two slices overlap -/
class OvF (P : Program) (f : FuncId) (tS tR : TypeId) : Prop where
  fn : ∃ fn, P.funcs[f]? = some fn ∧ (fn.name == "runtime.NumGoroutine") = false ∧ fn.body.isNone = true ∧ Extern.findNext fn = none ∧ Extern.find fn = some (Extern.SlicesOverlaps.overlaps #[tS, tS] #[tR])
end Go.Aw
namespace Go.Aw
open Go Go.RowKit
/-- what a body ends with, said in another way -/
theorem aws_endS {C : Ctx} {Q : Exit → St → Prop} {σ : St} {c : Code} (h : AWs C [c] (fun e s => ∃ τ, Says C s τ ∧ Q e τ) σ) : AWs C [c] Q σ := by
  have h1 := aws_one h
  intro a w hr
  refine wpIn_mono (h1 a w hr) ?_
  rintro e a' w' ⟨s, ⟨τ, h2, h3⟩, h4⟩
  cases e <;> exact ⟨τ, h3, h2 _ _ h4⟩
/-- the bitwise complement of a whole number -/
theorem lop_icomp {C : Ctx} {o : Oper} {σ : St} {t : TypeId} {x : Operand} {n m : Int} (ho : o.op = .unOp .xor t x) (hx : σ.look x = .p (.v (.int .i64 n))) (hn : -9223372036854775808 ≤ n ∧ n ≤ 9223372036854775807) (hm : -n - 1 = m) (hd : dOk C o.dst = true) : LOp C o σ ⟨.p (.v (.int .i64 m)), []⟩ (fun _ => false) :=
  lop_val hd fun τ a' w G hl hm' h => by
    have e1 := val_of h ((hl x (by simp [ho, Op.operands])).trans hx)
    have e3 : (BitVec.ofInt 64 (-1) ^^^ BitVec.ofInt 64 n).toNat = 2 ^ 64 - 1 - (BitVec.ofInt 64 n).toNat := by
      rw [show BitVec.ofInt 64 (-1) = BitVec.allOnes 64 by decide, BitVec.allOnes_xor, BitVec.toNat_not]
    have e4 : IntKind.i64.wrap ((2 ^ 64 - 1 - (BitVec.ofInt 64 n).toNat : Nat) : Int) = m := by
      rw [BitVec.toNat_ofInt, IntKind.wrap_i64]
      omega
    have e2 : (Op.unary .xor (.int .i64 n)).run C.P w = .ok (.int .i64 m) w := by
      simp only [Op.unary, show IntKind.i64.signed = true from rfl, if_true]
      show (Op.intBits .xor .i64 (-1) n).run C.P w = _
      show Result.ok (Value.int .i64 (IntKind.i64.wrap ((BitVec.ofInt 64 (-1) ^^^ BitVec.ofInt 64 n).toNat : Int))) w = _
      rw [e3, e4]
    exact ⟨_, by simp only [execOp, ho, e1, Sem.run_bind, e2, Result.andThen_ok]; rfl, rfl, rfl⟩
end Go.Aw
namespace Go.Proofs.YtlaeldgebecppaaGreat.Wi
open Go Go.RowKit Go.Aw Go.Aw.Cart Go.Proofs.YtlaeldgebecppaaGreat.Ca
set_option linter.unusedVariables false
set_option linter.unusedSimpArgs false
set_option maxRecDepth 8000
set_option maxHeartbeats 4000000
namespace W5
theorem lopC {C : Ctx} {o : Oper} {σ : St} {e : Eff} {ro : Nat → Bool} (h : LOp C o σ e ro := by
    first | (apply lop_icomp; (focus rfl); (focus rfl); (focus first | assumption | omega); (focus first | assumption | rfl); (focus rfl)) | (apply lop_ixv; (focus rfl); (focus exact inferInstance); (focus exact inferInstance); (focus rfl); (focus rfl); (focus exact inferInstance); (focus omega); (focus omega); (focus omega); (focus rfl); (focus rfl); (focus rfl); (focus rfl)) | exact W4.lopC | fail) : LOp C o σ e ro := h
section steps
variable {C : Ctx} {ops : Array Oper} {o : Oper} {rest : List Oper} {K : St → Prop} {σ : St} {e : Eff} {ro : Nat → Bool} {W : List (Nat × Nat)} {i : Nat}
theorem rnC {d : Nat} (hk : RunN C ops rest K (e.app (some d) σ)) (hg : Guard ops σ o true := by first | exact gd_n rfl rfl | exact gd_t rfl rfl rfl rfl | exact gd_t rfl rfl rfl (by assumption)) (hd : o.dst = some d := by rfl) (h : LOp C o σ e ro := by exact lopC) : RunN C ops (o :: rest) K σ := rn_any hg hd h hk
end steps
end W5
open W5
theorem numI_nat (m : Nat) : numI (m : Int) = numB m := by unfold numI; rw [Int.toNat_natCast]
theorem numI_len (x : Int) : (numI x).length ≤ 9 := by
  unfold numI numB
  rw [List.length_cons]
  have : (be x.toNat).length ≤ 8 := beF_le 8 _
  omega
theorem intB_len (x : Int) : (intB x).length ≤ 9 := by
  have := numI_len ((zig x : Nat) : Int)
  rwa [numI_nat] at this
theorem flat_len {α : Type} {f : α → List Nat} {k : Nat} : ∀ {l : List α}, (∀ a ∈ l, (f a).length ≤ k) → (l.flatMap f).length ≤ k * l.length
  | [], _ => by simp
  | a :: l, h => by
    have h1 := h a List.mem_cons_self
    have h2 := flat_len (f := f) (k := k) (l := l) fun x hx => h x (List.mem_cons_of_mem _ hx)
    rw [List.flatMap_cons, List.length_append, List.length_cons, Nat.mul_succ]; omega
theorem entB_len (e : Ent) : (entB e).length ≤ 36 := by
  have := numI_len e.1; have := numI_len e.2.1; have := numI_len e.2.2.1; have := intB_len e.2.2.2
  unfold entB
  rw [List.length_append, List.length_append, List.length_append]; omega
theorem cartB_len {v : List Int} {l : List Ent} (hv : vecOk v) (hr : rightF v l = true) : (cartB (v, l)).length ≤ 20000 := by
  have hl : l.length ≤ 400 := (ok_iff.1 hr).few
  have h1 : (vecB v).length ≤ 9 * v.length := flat_len fun a _ => numI_len a
  have h2 : (l.flatMap entB).length ≤ 36 * l.length := flat_len fun a _ => entB_len a
  have h3 := numI_len (l.length : Int)
  rw [numI_nat] at h3
  have h8 := hv.1
  unfold cartB
  rw [List.length_append, List.length_append]
  dsimp only
  omega
instance numI_i {c g n : Nat} {bs : List Nat} {x : Int} : OC Tryz.prog 80 [.o (.ptr c g 0), .p (.k .u64 x)] [(c, (n, some (.abs (wrA bs))))] [] (n = g + 1 ∧ (0 ≤ x ∧ x < 18446744073709551616) ∧ bs.length ≤ 1000000000) (.tup []) [(c, (n, some (.abs (wrA (bs ++ numI x)))))] := ⟨fun h => by
  obtain ⟨rfl, h1, h2⟩ := h
  obtain ⟨m, rfl⟩ : ∃ m : Nat, x = m := ⟨x.toNat, by omega⟩
  rw [numI_nat]
  exact (num_o g bs m (by omega) h2).one c⟩
theorem or_one (a : Nat) : (a * 2 ||| 1) = a * 2 + 1 := by
  have := Nat.shiftLeft_add_eq_or_of_lt (i := 1) (show 1 < 2 ^ 1 by decide) a
  rw [Nat.shiftLeft_eq] at this
  exact this.symm
theorem wint_o (n : Nat) (bs : List Nat) (x : Int) (hx : -9223372036854775808 ≤ x ∧ x ≤ 9223372036854775807) (h : bs.length ≤ 1000000000) : OCall Tryz.prog 154 [.o (.ptr 1000 n 0), .p (.i x)] (memL [(1000, (n + 1, some (.abs (wrA bs))))]) (.tup []) (memL [(1000, (n + 1, some (.abs (wrA (bs ++ intB x)))))]) := by
  refine ocall_of1 Tryz.func154 rfl (fun w0 F S0 M0 => ?_)
  have hmd : md .u64 = 18446744073709551616 := rfl
  by_cases h0 : 0 ≤ x
  · obtain ⟨q, rfl⟩ : ∃ q : Nat, x = q := ⟨x.toNat, by omega⟩
    have d1 : decide (0 ≤ (q : Int)) = true := decide_eq_true h0
    have e0 : q % md .u64 * 2 ^ (1 : Int).toNat % md .u64 = 2 * q := by
      rw [hmd, show 2 ^ (1 : Int).toNat = 2 from rfl]; omega
    have e : intB (q : Int) = numB (q % md .u64 * 2 ^ (1 : Int).toNat % md .u64) := by
      rw [e0]; unfold intB zig; rw [if_pos h0]; congr 1; try omega
    have b1 : q % md .u64 * 2 ^ (1 : Int).toNat % md .u64 < 18446744073709551616 := by rw [e0]; omega
    rw [e]
    as_aux_lemma =>
      repeat' (first | refine rnC ?_ | refine rnSB ?_ | refine rnG ?_ | refine rnU ?_ | ((fail_if_success (refine rnKn ?_)); refine rnP ?_ ?_ <;> (intro hq; try (have hq' := hq; simp only [hqs] at hq'))) | refine rkC ?_ | refine rkSB ?_ | refine rkF ?_ | refine rkU ?_ | ((fail_if_success (refine rkKn ?_)); refine rkP ?_ ?_ <;> (intro hq; try (have hq' := hq; simp only [hqs] at hq'))) | refine stp ?_ | refine ifT ?_ | refine ifF ?_ | (refine ifQ ?_ ?_ <;> (try (intro hn))) | (refine ifB ?_ ?_ <;> (intro hq; try (have hq' := hq; simp only [hqs] at hq'))))
      exact RetO.mk (res0 rfl rfl) ⟨.abs, trivial⟩
  · obtain ⟨q, rfl⟩ : ∃ q : Nat, x = -(q : Int) - 1 := ⟨(-x - 1).toNat, by omega⟩
    have d1 : decide (0 ≤ -(q : Int) - 1) = false := decide_eq_false h0
    have hq : -(-(q : Int) - 1) - 1 = (q : Int) := by omega
    have e0 : (q % md .u64 * 2 ^ (1 : Int).toNat % md .u64 % md .u64 ||| 1 % md .u64) = 2 * q + 1 := by
      rw [hmd, show 2 ^ (1 : Int).toNat = 2 from rfl, show q % 18446744073709551616 * 2 % 18446744073709551616 % 18446744073709551616 = q * 2 by omega, show 1 % 18446744073709551616 = 1 from rfl, or_one]; omega
    have e : intB (-(q : Int) - 1) = numB (q % md .u64 * 2 ^ (1 : Int).toNat % md .u64 % md .u64 ||| 1 % md .u64) := by
      rw [e0]; unfold intB zig; rw [if_neg h0]; congr 1; try omega
    have b1 : (q % md .u64 * 2 ^ (1 : Int).toNat % md .u64 % md .u64 ||| 1 % md .u64) < 18446744073709551616 := by rw [e0]; omega
    rw [e]
    as_aux_lemma =>
      repeat' (first | refine rnC ?_ | refine rnSB ?_ | refine rnG ?_ | refine rnU ?_ | ((fail_if_success (refine rnKn ?_)); refine rnP ?_ ?_ <;> (intro hq; try (have hq' := hq; simp only [hqs] at hq'))) | refine rkC ?_ | refine rkSB ?_ | refine rkF ?_ | refine rkU ?_ | ((fail_if_success (refine rkKn ?_)); refine rkP ?_ ?_ <;> (intro hq; try (have hq' := hq; simp only [hqs] at hq'))) | refine stp ?_ | refine ifT ?_ | refine ifF ?_ | (refine ifQ ?_ ?_ <;> (try (intro hn))) | (refine ifB ?_ ?_ <;> (intro hq; try (have hq' := hq; simp only [hqs] at hq'))))
      exact RetO.mk (res0 rfl rfl) ⟨.abs, trivial⟩
instance wint_i {c g n : Nat} {bs : List Nat} {x : Int} : OC Tryz.prog 154 [.o (.ptr c g 0), .p (.i x)] [(c, (n, some (.abs (wrA bs))))] [] (n = g + 1 ∧ (-9223372036854775808 ≤ x ∧ x ≤ 9223372036854775807) ∧ bs.length ≤ 1000000000) (.tup []) [(c, (n, some (.abs (wrA (bs ++ intB x)))))] := ⟨fun h => by obtain ⟨rfl, h1, h2⟩ := h; exact (wint_o g bs x h1 h2).one c⟩
theorem flat_take {α : Type} [Inhabited α] (f : α → List Nat) {l : List α} {i : Nat} (h : i < l.length) : (l.take (i + 1)).flatMap f = (l.take i).flatMap f ++ f (l.getD i default) := by
  rw [List.take_succ_eq_append_getElem h, List.flatMap_append, getD_at h]; simp
theorem ren_vV (c : Nat) (v : List Int) : AV.ren (rn1 c) (vV v) = vV v := by
  show AV.a ((v.map _).map _) = _
  rw [List.map_map]; rfl
theorem wvec_o (n : Nat) (bs : List Nat) (v : List Int) (hv : v.length = 8) (hb : ∀ x ∈ v, 0 ≤ x ∧ x < 18446744073709551616) (h : bs.length ≤ 900000000) : OCall Tryz.prog 153 [.o (.ptr 1000 n 0), vV v] (memL [(1000, (n + 1, some (.abs (wrA bs))))]) (.tup []) (memL [(1000, (n + 1, some (.abs (wrA (bs ++ vecB v)))))]) := by
  refine ocall_of1 Tryz.func153 rfl (fun w0 F S0 M0 => ?_)
  repeat' (first | refine rnC ?_ | refine rnSB ?_ | refine rnG ?_ | refine rnU ?_ | ((fail_if_success (refine rnKn ?_)); refine rnP ?_ ?_ <;> (intro hq; try (have hq' := hq; simp only [hqs] at hq'))) | refine rkC ?_ | refine rkSB ?_ | refine rkF ?_ | refine rkU ?_ | ((fail_if_success (refine rkKn ?_)); refine rkP ?_ ?_ <;> (intro hq; try (have hq' := hq; simp only [hqs] at hq'))) | refine stp ?_ | refine ifT ?_ | refine ifF ?_ | (refine ifQ ?_ ?_ <;> (try (intro hn))) | (refine ifB ?_ ?_ <;> (intro hq; try (have hq' := hq; simp only [hqs] at hq'))))
  refine aws_loopS [5, 7, 8, 9, 10, 11, 12, 13] [1000] (fun (x : Nat × List Nat) => [(7, .p (.i x.1))]) (fun x => [(1000, (n + 1, some (.abs (wrA x.2))))]) (fun x => x.1 ≤ 8 ∧ x.2 = bs ++ (v.take x.1).flatMap numI ∧ x.2.length ≤ bs.length + 9 * x.1) (fun x => 8 - x.1) (0, bs) ⟨Nat.zero_le _, by simp, by simp⟩ (by exact knA) (by exact knA) ?_
  rintro ⟨i, L⟩ β γ ⟨hi, hL, hl⟩
  dsimp only at hi hL hl ⊢
  by_cases hi8 : i < 8
  · have d1 : decide ((i : Int) < 8) = true := decide_eq_true (by omega)
    have ei : (i : Int).toNat = i := Int.toNat_natCast i
    have hx := hb (v.getD (i : Int).toNat default) (by rw [ei, getD_at (by omega)]; exact List.getElem_mem _)
    have hs : L ++ numI (v.getD (i : Int).toNat default) = bs ++ (v.take (i + 1)).flatMap numI := by rw [ei, flat_take numI (by omega), hL, List.append_assoc]
    have hsl := numI_len (v.getD (i : Int).toNat default)
    as_aux_lemma =>
      repeat' (first | refine rnC ?_ | refine rnSB ?_ | refine rnG ?_ | refine rnU ?_ | ((fail_if_success (refine rnKn ?_)); refine rnP ?_ ?_ <;> (intro hq; try (have hq' := hq; simp only [hqs] at hq'))) | refine rkC ?_ | refine rkSB ?_ | refine rkF ?_ | refine rkU ?_ | ((fail_if_success (refine rkKn ?_)); refine rkP ?_ ?_ <;> (intro hq; try (have hq' := hq; simp only [hqs] at hq'))) | refine stp ?_ | refine ifT ?_ | refine ifF ?_ | (refine ifQ ?_ ?_ <;> (try (intro hn))) | (refine ifB ?_ ?_ <;> (intro hq; try (have hq' := hq; simp only [hqs] at hq'))))
      exact ⟨(i + 1, L ++ numI (v.getD (i : Int).toNat default)), _, by dsimp only; omega, ⟨by dsimp only; omega, hs, by dsimp only; rw [List.length_append]; omega⟩, .refl, by exact frA⟩
  · have d1 : decide ((i : Int) < 8) = false := decide_eq_false (by omega)
    rw [List.take_of_length_le (by omega)] at hL
    rw [show bs ++ vecB v = L by rw [hL]; rfl]
    as_aux_lemma =>
      repeat' (first | refine rnC ?_ | refine rnSB ?_ | refine rnG ?_ | refine rnU ?_ | ((fail_if_success (refine rnKn ?_)); refine rnP ?_ ?_ <;> (intro hq; try (have hq' := hq; simp only [hqs] at hq'))) | refine rkC ?_ | refine rkSB ?_ | refine rkF ?_ | refine rkU ?_ | ((fail_if_success (refine rkKn ?_)); refine rkP ?_ ?_ <;> (intro hq; try (have hq' := hq; simp only [hqs] at hq'))) | refine stp ?_ | refine ifT ?_ | refine ifF ?_ | (refine ifQ ?_ ?_ <;> (try (intro hn))) | (refine ifB ?_ ?_ <;> (intro hq; try (have hq' := hq; simp only [hqs] at hq'))))
      exact RetO.mk (res0 rfl rfl) ⟨.abs, trivial⟩
theorem wtext_o (n : Nat) (bs b : List Nat) (ex : Bool) (hb : b.length ≤ 1000000) (h : bs.length ≤ 900000000) : OCall Tryz.prog 81 [.o (.ptr 1000 n 0), .p (.sl 1 (b.map bR) ex)] (memL [(1000, (n + 1, some (.abs (wrA bs))))]) (.tup []) (memL [(1000, (n + 1, some (.abs (wrA (bs ++ textB b)))))]) := by
  refine ocall_of1 Tryz.func81 rfl (fun w0 F S0 M0 => ?_)
  have hmd : md .u64 = 18446744073709551616 := rfl
  have e0 : b.length % md .u64 = b.length := by rw [hmd]; omega
  have b1 : b.length % md .u64 < 18446744073709551616 := by rw [e0]; omega
  have hsl := numI_len ((b.length % md .u64 : Nat) : Int)
  rw [numI_nat] at hsl
  have e : textB b = numB (b.length % md .u64) ++ b := by unfold textB; rw [e0]
  rw [e, ← List.append_assoc]
  have hl2 : (bs ++ numB (b.length % md .u64)).length ≤ 900000009 := by rw [List.length_append]; omega
  refine aws_endS ?_
  repeat' (first | refine rnC ?_ | refine rnSB ?_ | refine rnG ?_ | refine rnU ?_ | ((fail_if_success (refine rnKn ?_)); refine rnP ?_ ?_ <;> (intro hq; try (have hq' := hq; simp only [hqs] at hq'))) | refine rkC ?_ | refine rkSB ?_ | refine rkF ?_ | refine rkU ?_ | ((fail_if_success (refine rkKn ?_)); refine rkP ?_ ?_ <;> (intro hq; try (have hq' := hq; simp only [hqs] at hq'))) | refine stp ?_ | refine ifT ?_ | refine ifF ?_ | (refine ifQ ?_ ?_ <;> (try (intro hn))) | (refine ifB ?_ ?_ <;> (intro hq; try (have hq' := hq; simp only [hqs] at hq'))))
  generalize bs ++ numB (b.length % md .u64) = L at hl2 ⊢
  refine rn_says (says_unpack' (p := 1000) (o := 901) rfl rfl (List.length_map _) rfl (by decide)) rfl ?_
  as_aux_lemma =>
    repeat' (first | refine rnC ?_ | refine rnSB ?_ | refine rnG ?_ | refine rnU ?_ | ((fail_if_success (refine rnKn ?_)); refine rnP ?_ ?_ <;> (intro hq; try (have hq' := hq; simp only [hqs] at hq'))) | refine rkC ?_ | refine rkSB ?_ | refine rkF ?_ | refine rkU ?_ | ((fail_if_success (refine rkKn ?_)); refine rkP ?_ ?_ <;> (intro hq; try (have hq' := hq; simp only [hqs] at hq'))) | refine stp ?_ | refine ifT ?_ | refine ifF ?_ | (refine ifQ ?_ ?_ <;> (try (intro hn))) | (refine ifB ?_ ?_ <;> (intro hq; try (have hq' := hq; simp only [hqs] at hq'))))
    exact ⟨_, says_pack (p := 1000) (o := 901) (pre := []) (post := []) rfl rfl rfl rfl (by rw [List.length_map]) (by decide), RetO.mk (res0 rfl rfl) ⟨.abs, trivial⟩⟩
instance wtext_i {c g n : Nat} {bs b : List Nat} {ex : Bool} : OC Tryz.prog 81 [.o (.ptr c g 0), .p (.sl 1 (b.map bR) ex)] [(c, (n, some (.abs (wrA bs))))] [] (n = g + 1 ∧ b.length ≤ 1000000 ∧ bs.length ≤ 900000000) (.tup []) [(c, (n, some (.abs (wrA (bs ++ textB b)))))] := ⟨fun h => by obtain ⟨rfl, h1, h2⟩ := h; exact (wtext_o g bs b ex h1 h2).one c⟩
end Go.Proofs.YtlaeldgebecppaaGreat.Wi
