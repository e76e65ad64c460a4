/- THE ABSTRACT WALK, part 27: an own slice, lent to a call that takes slices that stay; an own slice cut. Nothing here speaks of a program.; events: lists looked through, and one behind the other; the model: which events may be, which lists have them, their dots, and what went off -/
import Derived.Test.YtebjmleheiefdaaGreatKw
import Derived.Test.YtebjmleheiefdaaGreatG3
import Derived.Test.YtebjmleheiefdaaGreatCd3
import Derived.Test.YtebjmleheiefdaaGreatG2
namespace Go.Aw
open Go Go.RowKit
set_option linter.unusedVariables false
set_option linter.unusedSimpArgs false

/-- what hangs on no block -/
def RV (r : AV) : Prop := ∀ μ X Y v, r.holds μ X v → r.holds μ Y v
theorem RV.v {c : Value} : RV (.p (.v c)) := fun _ _ _ _ h => h
theorem RV.a {cs : List AC} (h : ∀ c ∈ cs, ∃ x, c = .p (.v x)) : RV (.a cs) := by
  rintro μ X Y v ⟨arr, rfl, h1⟩
  refine ⟨arr, rfl, h1.1, fun i c x hc hx => ?_⟩
  obtain ⟨y, rfl⟩ := h c (List.mem_of_getElem? hc)
  exact h1.2 i _ x hc hx
/-- an argument xs0 the callee sees it: an own slice stays while it is lent -/
def Lnd (σ : St) (ob : Nat) (a b : AV) : Prop :=
  Ent a b ∨ ∃ g es n ty rows, a = .o (.osl ob g es 0 rows.length) ∧ σ.mem ob = (n, some (.buf ty es rows)) ∧ n = g + 1 ∧ b = .p (.sl es rows false)
theorem lop_lend {C : Ctx} {o : Oper} {σ : St} {f : FuncId} {xs0 : Array Operand} {ts : Array TypeId} {args : List AV} {r : AV} {ob : Nat} (hfn : FnT C.P f) (ho : o.op = .call ⟨.value (.func f), xs0, ts⟩)
    (hE : All2 (Lnd σ ob) (xs0.toList.map σ.look) args) (hc : PCall C.P f args r) (hr : RV r) (hd : dOk C o.dst = true) : LOp C o σ ⟨r, []⟩ (fun y => y == ob) := by
  refine ⟨fun x m h => by simp at h, fun τ hl hm a w ⟨G, h⟩ K Q hK => ?_⟩
  have hmo : τ.mem ob = σ.mem ob := hm ob (by simp)
  have hE' : All2 (Lnd τ ob) (xs0.toList.map τ.look) args := by
    have : xs0.toList.map τ.look = xs0.toList.map σ.look := List.map_congr_left fun x hx => hl x (by rw [ho]; simp [Op.operands, Call.operands]; right; simpa using hx)
    rw [this]
    refine hE.mono fun a b k => ?_
    unfold Lnd at k ⊢
    rw [hmo]; exact k
  have hS : Wd.le ⟨w, G.S⟩ ⟨w, fun b => G.S b ∨ b ∈ G.φ ob⟩ := fun b hb => ⟨.inl hb, rfl⟩
  have hv : All2 (AV.holds Mu.none ⟨w, fun b => G.S b ∨ b ∈ G.φ ob⟩) args (xs0.toList.map a.eval) := by
    refine ⟨by have := hE'.1; simpa using this.symm, fun i av v hav hvv => ?_⟩
    rw [List.getElem?_map] at hvv
    cases hx : xs0.toList[i]? with
    | none => rw [hx] at hvv; cases hvv
    | some x =>
      rw [hx] at hvv; simp at hvv; subst hvv
      rcases hE'.2 i (τ.look x) av (by simp [List.getElem?_map, hx]) hav with k | ⟨g, es, n, ty, rows, e1, e2, e3, e4⟩
      · exact (k _ _ _ (h.look x)).mono (Mu.le.refl _) hS
      · have hlk := look_of h e1
        obtain ⟨m, c, p1, p2, p3⟩ := hlk
        obtain ⟨g', m', q1, q2, q3, q4, q5, q6⟩ := h.mem ob _ _ e2
        obtain rfl : g = g' := by omega
        rw [p1] at q2
        obtain rfl := Option.some.inj q2
        subst e4
        refine ⟨m.map fun b => (⟨b, 0 * es, none⟩ : Addr), c - 0, p3, by simpa using p2, by simpa using q4, by simp, ?_⟩
        rcases q6 with ⟨r1, r2, _⟩ | ⟨b, arr, r1, r2, r3, r4, r5⟩
        · simp only at r1 r2 p2
          subst r1
          exact ⟨List.eq_nil_of_length_eq_zero (by omega), by simpa using r2⟩
        · simp only at r1
          subst r1
          refine .inr ⟨rfl, .inr (by rw [r2]; simp), arr, ty, (0, 0), r3, fun i row hrow => ⟨(r5 i row hrow).1, fun j p hp => ?_⟩⟩
          obtain ⟨z, hz, hz'⟩ := (r5 i row hrow).2 j p hp
          exact ⟨z, by simpa using hz, p.mono hS hz'⟩
  obtain ⟨fn, h1, h2, h3⟩ := hfn.fn
  have hrun : (execOp a.eval o).run C.P w = .ok (.enter f (xs0.map a.eval)) w := by
    have e1 : a.eval (.func f) = .func (.func f) #[] #[] := rfl
    have hname : (fn.name == "runtime.NumGoroutine") = false := h2
    cases hbody : fn.body with
    | none => simp [hbody] at h3
    | some c => simp [execOp, ho, resolve, e1, Deferred.ofValue, invoke, callFunc, program, Sem.run, Sem.run_bind, h1, hbody, pure, show ¬ fn.name = "runtime.NumGoroutine" from by simpa using hname]
  refine wpIn_exec (by rw [ho]; intro c h; cases h) ?_
  rw [hrun, Oper.uponIn_enter]
  have h9 : Calls C.P f (xs0.toList.map a.eval).toArray w fun
      | .returned v, w'' => K (a.put o.dst v) w''
      | .panicked chain, w'' => Q (.panic chain) a w''
      | .outgrown, _ => LetsOut Q := by
    refine (hc w (fun b => G.S b ∨ b ∈ G.φ ob) _ (fun b hb => hb.elim (fun k => (h.sbd b k).1) fun k => (h.own ob b k).2) hv).mono ?_
    rintro e w' ⟨v, rfl, ⟨S', hS1, hS2, hrr⟩, hb, hdr⟩
    have h1 := h.world (Quiet.of_below hb hdr) (fun b => w.heap.size ≤ b ∧ b < w'.heap.size) (fun b hb => hb)
    exact hK _ _ ⟨_, h1.setv hd ((hr _ _ _ _ hrr).mono (Mu.none_le _) (Wd.le.refl _))⟩
  have e : (xs0.toList.map a.eval).toArray = xs0.map a.eval := by rw [← Array.toList_map]
  rw [e] at h9
  exact ⟨by simp [fz, Fence.wide], (callsIn_wide (n := 0)).2 h9⟩
theorem lop_lend1 {C : Ctx} {o : Oper} {σ : St} {f : FuncId} {x : Operand} {ts : Array TypeId} {r : AV} {pre : Prop} {ob g es n len : Nat} {ty : TypeId} {rows : List (List PVal)} (ho : o.op = .call ⟨.value (.func f), #[x], ts⟩) (hfn : FnT C.P f) (hx : σ.look x = .o (.osl ob g es 0 len)) (hm : σ.mem ob = (n, some (.buf ty es rows))) (hn : n = g + 1) (hl : len = rows.length)
    (hc : PC C.P f [.p (.sl es rows false)] pre r) (hpre : pre) (hr : RV r) (hd : dOk C o.dst = true) : LOp C o σ ⟨r, []⟩ (fun y => y == ob) := by
  subst hl
  exact lop_lend hfn ho (.cons (.inr ⟨g, es, n, ty, rows, hx, hm, hn, rfl⟩) .nil) (hc.call hpre) hr hd
theorem lop_lend2 {C : Ctx} {o : Oper} {σ : St} {f : FuncId} {x y : Operand} {ts : Array TypeId} {r ay : AV} {pre : Prop} {ob g es n len : Nat} {ty : TypeId} {rows : List (List PVal)} (ho : o.op = .call ⟨.value (.func f), #[x, y], ts⟩) (hfn : FnT C.P f) (hx : σ.look x = .o (.osl ob g es 0 len)) (hm : σ.mem ob = (n, some (.buf ty es rows))) (hn : n = g + 1) (hl : len = rows.length)
    (hy : σ.look y = ay) (hp : PureAV ay) (hc : PC C.P f [.p (.sl es rows false), ay] pre r) (hpre : pre) (hr : RV r) (hd : dOk C o.dst = true) : LOp C o σ ⟨r, []⟩ (fun y => y == ob) := by
  subst hl
  exact lop_lend hfn ho (.cons (.inr ⟨g, es, n, ty, rows, hx, hm, hn, rfl⟩) (.cons (.inl (by rw [hy]; exact hp.pure)) .nil)) (hc.call hpre) hr hd
theorem lop_lend2b {C : Ctx} {o : Oper} {σ : St} {f : FuncId} {x y : Operand} {ts : Array TypeId} {r ay : AV} {pre : Prop} {ob g es n len : Nat} {ty : TypeId} {rows : List (List PVal)} (ho : o.op = .call ⟨.value (.func f), #[y, x], ts⟩) (hfn : FnT C.P f) (hx : σ.look x = .o (.osl ob g es 0 len)) (hm : σ.mem ob = (n, some (.buf ty es rows))) (hn : n = g + 1) (hl : len = rows.length)
    (hy : σ.look y = ay) (hp : PureAV ay) (hc : PC C.P f [ay, .p (.sl es rows false)] pre r) (hpre : pre) (hr : RV r) (hd : dOk C o.dst = true) : LOp C o σ ⟨r, []⟩ (fun y => y == ob) := by
  subst hl
  exact lop_lend hfn ho (.cons (.inl (by rw [hy]; exact hp.pure)) (.cons (.inr ⟨g, es, n, ty, rows, hx, hm, hn, rfl⟩) .nil)) (hc.call hpre) hr hd
/-- of an own slice's rows just the first ones are known from now on -/
theorem says_cut {C : Ctx} {σ : St} {o n ty es : Nat} {rows : List (List PVal)} (k : Nat) (hm : σ.mem o = (n, some (.buf ty es rows))) : Says C σ (σ.put o (n, some (.buf ty es (rows.take k)))) := by
  rintro a w ⟨G, h⟩
  have hlen : (G.μ o).length = n := by have := h.gens o; rw [hm] at this; exact this
  obtain ⟨g', m, hg, hmm, hes, hmax, hrl, hh⟩ := h.mem o _ _ hm
  have eμ : (fun x => if x = o then G.μ o else G.μ x) = G.μ := by funext x; split <;> simp_all
  refine ⟨_, h.upd (o := o) (n' := n) (mo' := some (.buf ty es (rows.take k))) (μo := G.μ o) (fp' := G.φ o) (w' := w) (fun g x hx => hx) hlen rfl .same rfl (Nat.le_refl _) (fun _ _ _ => rfl) (fun b hb => ⟨.inl hb, (h.own o b hb).2⟩) (fun mo hmo => ?_)⟩
  obtain rfl := Option.some.inj hmo
  refine ⟨g', m, hg, hmm, hes, hmax, Nat.le_trans (List.length_take_le' _ _) hrl, ?_⟩
  rcases hh with h3 | ⟨b, arr, r1, r2, r3, r4, r5⟩
  · exact .inl h3
  · refine .inr ⟨b, arr, r1, r2, r3, r4, fun i row hr => ?_⟩
    rw [List.getElem?_take] at hr
    split at hr
    · exact r5 i row hr
    · cases hr
end Go.Aw
namespace Go.Proofs.YtebjmleheiefdaaGreat.Ca
open Go Go.RowKit Go.Aw Go.Aw.Cart Go.Aw.Ord Go.Sort
set_option linter.unusedVariables false
set_option linter.unusedSimpArgs false
set_option maxRecDepth 8000
set_option maxHeartbeats 4000000
/-! events as rows -/
abbrev xR (x : Evt) : List PVal := [.i x.1, .i x.2.1, .i x.2.2.1, .i x.2.2.2.1.1, .k .u64 x.2.2.2.1.2, .sl 2 (x.2.2.2.2.map dR) false]
abbrev x6L (x : Evt) : List AC := [.p (.i x.1), .p (.i x.2.1), .p (.i x.2.2.1), .p (.i x.2.2.2.1.1), .p (.k .u64 x.2.2.2.1.2), .p (.sl 2 (x.2.2.2.2.map dR) false)]
abbrev xV (x : Evt) : AV := .a (x6L x)
/-- a function's value that tells something of an event -/
class FPX (P : Program) (f : FuncId) (caps : List PVal) (pre : outParam Prop) (p : outParam (Evt → Bool)) : Prop where
  call : pre → ∀ e, PCall P f ([xV e] ++ caps.map .p) (.p (.b (p e)))
def idxX (p : Evt → Bool) (l : List Evt) (k : Nat) : Nat → Int
  | 0 => -1
  | n + 1 => if p (l.getD k default) = true then k else idxX p l (k + 1) n
theorem idxX_any {p : Evt → Bool} {l : List Evt} : ∀ (n k : Nat), k + n = l.length → decide (0 ≤ idxX p l k n) = (l.drop k).any p
  | 0, k, h => by rw [List.drop_eq_nil_of_le (by omega)]; rfl
  | n + 1, k, h => by
    have hk : k < l.length := by omega
    have e : l.drop k = l.getD k default :: l.drop (k + 1) := by
      rw [List.getD_eq_getElem?_getD, List.getElem?_eq_getElem hk]; exact List.drop_eq_getElem_cons hk
    rw [idxX, e, List.any_cons, ← idxX_any n (k + 1) (by omega)]
    by_cases hp : p (l.getD k default) = true
    · rw [if_pos hp, hp]; exact decide_eq_true (by omega)
    · rw [if_neg hp, Bool.eq_false_iff.2 hp, Bool.false_or]
namespace M1
theorem lopC {C : Ctx} {o : Oper} {σ : St} {e : Eff} {ro : Nat → Bool} (h : LOp C o σ e ro := by
    first | (apply lop_callv1; (focus rfl); (focus rfl); (focus assumption); (focus first | exact lk_o rfl | exact lk_a rfl); (focus exact inferInstance); (focus exact inferInstance); (focus exact True.intro); (focus rfl)) | (apply gLoad; (focus rfl); apply lop_ld_atn; (focus rfl); (focus exact inferInstance); (focus rfl); (focus rfl); (focus decide); (focus rfl); (focus repeat' (first | exact All2.nil | (apply All2.cons; (focus rfl)))); (focus rfl)) | exact lopV | fail) : LOp C o σ e ro := h
section steps
variable {C : Ctx} {ops : Array Oper} {o : Oper} {rest : List Oper} {K : St → Prop} {σ : St} {e : Eff} {ro : Nat → Bool} {W : List (Nat × Nat)} {i : Nat}
theorem rnC {d : Nat} (hk : RunN C ops rest K (e.app (some d) σ)) (hg : Guard ops σ o true := by first | exact gd_n rfl rfl | exact gd_t rfl rfl rfl rfl | exact gd_t rfl rfl rfl (by assumption)) (hd : o.dst = some d := by rfl) (h : LOp C o σ e ro := by exact lopC) : RunN C ops (o :: rest) K σ := rn_any hg hd h hk
theorem rkC {d : Nat} (hk : RunK C ops W (i + 1) rest K (e.app (some d) σ)) (hg : Guard ops σ o true := by first | exact gd_n rfl rfl | exact gd_t rfl rfl rfl rfl | exact gd_t rfl rfl rfl (by assumption)) (hd' : o.dst = some d := by rfl) (hd : dOk C o.dst = true := by rfl) (h : LOp C o σ e ro := by exact lopC)
    (hro : ∀ x, ro x = true → okObj ops W i x = true := by first | exact fun _ => ro_none | exact ro_one rfl | exact ro_k1 rfl | exact ro_one (by kernel_rfl) | exact ro_k1 (by kernel_rfl) | exact ro_kIn (by decide)) (hob : ∀ p ∈ e.obj, (i, p.1) ∈ W := by first | exact ob_none | exact ob_one (by decide) | decide) : RunK C ops W i (o :: rest) K σ := rk_wr hg hd' hd h hro hob hk
end steps
end M1
section
open M1
theorem indexFuncX_w (f : FuncId) (caps : List PVal) (hf : FnT Tryz.prog f) (p : Evt → Bool) (l : List Evt) (ex : Bool) (h : l.length ≤ 1000000000) (hp : ∀ e, PCall Tryz.prog f ([xV e] ++ caps.map .p) (.p (.b (p e)))) : PCall Tryz.prog 137 [.p (.sl 6 (l.map xR) ex), .p (.fnv f caps)] (.p (.i (idxX p l 0 l.length))) := by
  refine pcall_of Tryz.func137 rfl (fun w0 F S0 M0 => ?_)
  haveI : ∀ e, PC Tryz.prog f ([xV e] ++ caps.map .p) True (.p (.b (p e))) := fun e => ⟨fun _ => hp e⟩
  obtain ⟨A, hA⟩ : ∃ A, A = idxX p l 0 l.length := ⟨_, rfl⟩
  rw [← hA]
  repeat' (first | refine rnC ?_ | refine rnSB ?_ | refine rnG ?_ | refine rnU ?_ | ((fail_if_success (refine rnKn ?_)); refine rnP ?_ ?_ <;> (intro hq; try (have hq' := hq; simp only [hqs] at hq'))) | refine rkC ?_ | refine rkSB ?_ | refine rkF ?_ | refine rkU ?_ | ((fail_if_success (refine rkKn ?_)); refine rkP ?_ ?_ <;> (intro hq; try (have hq' := hq; simp only [hqs] at hq'))) | refine stp ?_ | refine ifT ?_ | refine ifF ?_ | (refine ifQ ?_ ?_ <;> (try (intro hn))) | (refine ifB ?_ ?_ <;> (intro hq; try (have hq' := hq; simp only [hqs] at hq'))))
  refine aws_loopS [4, 5, 8, 9, 10, 11, 12, 13, 14, 15, 16, 17, 18] [] (fun (i : Nat) => [(8, .p (.i i))]) (fun _ => []) (fun i => i ≤ l.length ∧ A = idxX p l i (l.length - i)) (fun i => l.length - i) 0 ⟨Nat.zero_le _, hA⟩ (by exact knA) (by exact knA) ?_
  rintro i β γ ⟨hi, hx⟩
  by_cases hil : i < l.length
  · have hlt : decide ((i : Int) < l.length) = true := decide_eq_true (by omega)
    rw [show l.length - i = (l.length - (i + 1)) + 1 by omega, idxX] at hx
    cases hv : p (l.getD (i : Int).toNat default) with
    | true =>
      have hv' := hv
      rw [Int.toNat_natCast] at hv'
      rw [if_pos hv'] at hx
      rw [hx]
      as_aux_lemma =>
        repeat' (first | refine rnC ?_ | refine rnSB ?_ | refine rnG ?_ | refine rnU ?_ | ((fail_if_success (refine rnKn ?_)); refine rnP ?_ ?_ <;> (intro hq; try (have hq' := hq; simp only [hqs] at hq'))) | refine rkC ?_ | refine rkSB ?_ | refine rkF ?_ | refine rkU ?_ | ((fail_if_success (refine rkKn ?_)); refine rkP ?_ ?_ <;> (intro hq; try (have hq' := hq; simp only [hqs] at hq'))) | refine stp ?_ | refine ifT ?_ | refine ifF ?_ | (refine ifQ ?_ ?_ <;> (try (intro hn))) | (refine ifB ?_ ?_ <;> (intro hq; try (have hq' := hq; simp only [hqs] at hq'))))
        exact rt1 rfl rfl finS_p rfl
    | false =>
      have hv' := hv
      rw [Int.toNat_natCast] at hv'
      rw [if_neg (by rw [hv']; simp)] at hx
      as_aux_lemma =>
        repeat' (first | refine rnC ?_ | refine rnSB ?_ | refine rnG ?_ | refine rnU ?_ | ((fail_if_success (refine rnKn ?_)); refine rnP ?_ ?_ <;> (intro hq; try (have hq' := hq; simp only [hqs] at hq'))) | refine rkC ?_ | refine rkSB ?_ | refine rkF ?_ | refine rkU ?_ | ((fail_if_success (refine rkKn ?_)); refine rkP ?_ ?_ <;> (intro hq; try (have hq' := hq; simp only [hqs] at hq'))) | refine stp ?_ | refine ifT ?_ | refine ifF ?_ | (refine ifQ ?_ ?_ <;> (try (intro hn))) | (refine ifB ?_ ?_ <;> (intro hq; try (have hq' := hq; simp only [hqs] at hq'))))
        exact ⟨i + 1, _, by omega, ⟨by omega, hx⟩, .refl, by exact frA⟩
  · have hlt : decide ((i : Int) < l.length) = false := decide_eq_false (by omega)
    rw [show l.length - i = 0 by omega, idxX] at hx
    rw [hx]
    as_aux_lemma =>
      repeat' (first | refine rnC ?_ | refine rnSB ?_ | refine rnG ?_ | refine rnU ?_ | ((fail_if_success (refine rnKn ?_)); refine rnP ?_ ?_ <;> (intro hq; try (have hq' := hq; simp only [hqs] at hq'))) | refine rkC ?_ | refine rkSB ?_ | refine rkF ?_ | refine rkU ?_ | ((fail_if_success (refine rkKn ?_)); refine rkP ?_ ?_ <;> (intro hq; try (have hq' := hq; simp only [hqs] at hq'))) | refine stp ?_ | refine ifT ?_ | refine ifF ?_ | (refine ifQ ?_ ?_ <;> (try (intro hn))) | (refine ifB ?_ ?_ <;> (intro hq; try (have hq' := hq; simp only [hqs] at hq'))))
      exact rt1 rfl rfl finS_p rfl
instance indexFuncX_i {f : FuncId} {caps : List PVal} {pre : Prop} {p : Evt → Bool} {l : List Evt} {ex : Bool} [hf : FnT Tryz.prog f] [hp : FPX Tryz.prog f caps pre p] : PC Tryz.prog 137 [.p (.sl 6 (l.map xR) ex), .p (.fnv f caps)] (pre ∧ l.length ≤ 1000000000) (.p (.i (idxX p l 0 l.length))) := ⟨fun h => indexFuncX_w f caps hf p l ex h.2 (hp.call h.1)⟩
theorem containsFuncX_w (f : FuncId) (caps : List PVal) (hf : FnT Tryz.prog f) (p : Evt → Bool) (l : List Evt) (ex : Bool) (h : l.length ≤ 1000000000) (hp : ∀ e, PCall Tryz.prog f ([xV e] ++ caps.map .p) (.p (.b (p e)))) : PCall Tryz.prog 100 [.p (.sl 6 (l.map xR) ex), .p (.fnv f caps)] (.p (.b (l.any p))) := by
  refine pcall_of Tryz.func100 rfl (fun w0 F S0 M0 => ?_)
  haveI : FPX Tryz.prog f caps True p := ⟨fun _ => hp⟩
  as_aux_lemma =>
    repeat' (first | refine rnC ?_ | refine rnSB ?_ | refine rnG ?_ | refine rnU ?_ | ((fail_if_success (refine rnKn ?_)); refine rnP ?_ ?_ <;> (intro hq; try (have hq' := hq; simp only [hqs] at hq'))) | refine rkC ?_ | refine rkSB ?_ | refine rkF ?_ | refine rkU ?_ | ((fail_if_success (refine rkKn ?_)); refine rkP ?_ ?_ <;> (intro hq; try (have hq' := hq; simp only [hqs] at hq'))) | refine stp ?_ | refine ifT ?_ | refine ifF ?_ | (refine ifQ ?_ ?_ <;> (try (intro hn))) | (refine ifB ?_ ?_ <;> (intro hq; try (have hq' := hq; simp only [hqs] at hq'))))
    refine rt1 rfl rfl finS_p (rb ?_)
    have := idxX_any (p := p) (l := l) l.length 0 (by omega)
    rw [List.drop_zero] at this
    exact this.symm
instance containsFuncX_i {f : FuncId} {caps : List PVal} {pre : Prop} {p : Evt → Bool} {l : List Evt} {ex : Bool} [hf : FnT Tryz.prog f] [hp : FPX Tryz.prog f caps pre p] : PC Tryz.prog 100 [.p (.sl 6 (l.map xR) ex), .p (.fnv f caps)] (pre ∧ l.length ≤ 1000000000) (.p (.b (l.any p))) := ⟨fun h => containsFuncX_w f caps hf p l ex h.2 (hp.call h.1)⟩
end
namespace M1d
theorem lopC {C : Ctx} {o : Oper} {σ : St} {e : Eff} {ro : Nat → Bool} (h : LOp C o σ e ro := by
    first | (apply lop_callv1; (focus rfl); (focus rfl); (focus assumption); (focus first | exact lk_o rfl | exact lk_a rfl); (focus exact inferInstance); (focus exact inferInstance); (focus exact True.intro); (focus rfl)) | (apply gLoad; (focus rfl); apply lop_ld_atn; (focus rfl); (focus exact inferInstance); (focus rfl); (focus rfl); (focus decide); (focus rfl); (focus repeat' (first | exact All2.nil | (apply All2.cons; (focus rfl)))); (focus rfl)) | exact lopV | fail) : LOp C o σ e ro := h
section steps
variable {C : Ctx} {ops : Array Oper} {o : Oper} {rest : List Oper} {K : St → Prop} {σ : St} {e : Eff} {ro : Nat → Bool} {W : List (Nat × Nat)} {i : Nat}
theorem rnC {d : Nat} (hk : RunN C ops rest K (e.app (some d) σ)) (hg : Guard ops σ o true := by first | exact gd_n rfl rfl | exact gd_t rfl rfl rfl rfl | exact gd_t rfl rfl rfl (by assumption)) (hd : o.dst = some d := by rfl) (h : LOp C o σ e ro := by exact lopC) : RunN C ops (o :: rest) K σ := rn_any hg hd h hk
theorem rkC {d : Nat} (hk : RunK C ops W (i + 1) rest K (e.app (some d) σ)) (hg : Guard ops σ o true := by first | exact gd_n rfl rfl | exact gd_t rfl rfl rfl rfl | exact gd_t rfl rfl rfl (by assumption)) (hd' : o.dst = some d := by rfl) (hd : dOk C o.dst = true := by rfl) (h : LOp C o σ e ro := by exact lopC)
    (hro : ∀ x, ro x = true → okObj ops W i x = true := by first | exact fun _ => ro_none | exact ro_one rfl | exact ro_k1 rfl | exact ro_one (by kernel_rfl) | exact ro_k1 (by kernel_rfl) | exact ro_kIn (by decide)) (hob : ∀ p ∈ e.obj, (i, p.1) ∈ W := by first | exact ob_none | exact ob_one (by decide) | decide) : RunK C ops W i (o :: rest) K σ := rk_wr hg hd' hd h hro hob hk
end steps
end M1d
section
open M1d
theorem indexFuncDW_w (f : FuncId) (caps : List PVal) (hf : FnT Tryz.prog f) (p : Dot → Bool) (l : List Dot) (ex : Bool) (h : l.length ≤ 1000000000) (hp : ∀ e, PCall Tryz.prog f ([dV e] ++ caps.map .p) (.p (.b (p e)))) : PCall Tryz.prog 140 [.p (.sl 2 (l.map dR) ex), .p (.fnv f caps)] (.p (.i (idxPD p l 0 l.length))) := by
  refine pcall_of Tryz.func140 rfl (fun w0 F S0 M0 => ?_)
  haveI : ∀ e, PC Tryz.prog f ([dV e] ++ caps.map .p) True (.p (.b (p e))) := fun e => ⟨fun _ => hp e⟩
  obtain ⟨A, hA⟩ : ∃ A, A = idxPD p l 0 l.length := ⟨_, rfl⟩
  rw [← hA]
  repeat' (first | refine rnC ?_ | refine rnSB ?_ | refine rnG ?_ | refine rnU ?_ | ((fail_if_success (refine rnKn ?_)); refine rnP ?_ ?_ <;> (intro hq; try (have hq' := hq; simp only [hqs] at hq'))) | refine rkC ?_ | refine rkSB ?_ | refine rkF ?_ | refine rkU ?_ | ((fail_if_success (refine rkKn ?_)); refine rkP ?_ ?_ <;> (intro hq; try (have hq' := hq; simp only [hqs] at hq'))) | refine stp ?_ | refine ifT ?_ | refine ifF ?_ | (refine ifQ ?_ ?_ <;> (try (intro hn))) | (refine ifB ?_ ?_ <;> (intro hq; try (have hq' := hq; simp only [hqs] at hq'))))
  refine aws_loopS [4, 5, 8, 9, 10, 11, 12, 13, 14, 15, 16, 17, 18] [] (fun (i : Nat) => [(8, .p (.i i))]) (fun _ => []) (fun i => i ≤ l.length ∧ A = idxPD p l i (l.length - i)) (fun i => l.length - i) 0 ⟨Nat.zero_le _, hA⟩ (by exact knA) (by exact knA) ?_
  rintro i β γ ⟨hi, hx⟩
  by_cases hil : i < l.length
  · have hlt : decide ((i : Int) < l.length) = true := decide_eq_true (by omega)
    rw [show l.length - i = (l.length - (i + 1)) + 1 by omega, idxPD] at hx
    cases hv : p (l.getD (i : Int).toNat default) with
    | true =>
      have hv' := hv
      rw [Int.toNat_natCast] at hv'
      rw [if_pos hv'] at hx
      rw [hx]
      as_aux_lemma =>
        repeat' (first | refine rnC ?_ | refine rnSB ?_ | refine rnG ?_ | refine rnU ?_ | ((fail_if_success (refine rnKn ?_)); refine rnP ?_ ?_ <;> (intro hq; try (have hq' := hq; simp only [hqs] at hq'))) | refine rkC ?_ | refine rkSB ?_ | refine rkF ?_ | refine rkU ?_ | ((fail_if_success (refine rkKn ?_)); refine rkP ?_ ?_ <;> (intro hq; try (have hq' := hq; simp only [hqs] at hq'))) | refine stp ?_ | refine ifT ?_ | refine ifF ?_ | (refine ifQ ?_ ?_ <;> (try (intro hn))) | (refine ifB ?_ ?_ <;> (intro hq; try (have hq' := hq; simp only [hqs] at hq'))))
        exact rt1 rfl rfl finS_p rfl
    | false =>
      have hv' := hv
      rw [Int.toNat_natCast] at hv'
      rw [if_neg (by rw [hv']; simp)] at hx
      as_aux_lemma =>
        repeat' (first | refine rnC ?_ | refine rnSB ?_ | refine rnG ?_ | refine rnU ?_ | ((fail_if_success (refine rnKn ?_)); refine rnP ?_ ?_ <;> (intro hq; try (have hq' := hq; simp only [hqs] at hq'))) | refine rkC ?_ | refine rkSB ?_ | refine rkF ?_ | refine rkU ?_ | ((fail_if_success (refine rkKn ?_)); refine rkP ?_ ?_ <;> (intro hq; try (have hq' := hq; simp only [hqs] at hq'))) | refine stp ?_ | refine ifT ?_ | refine ifF ?_ | (refine ifQ ?_ ?_ <;> (try (intro hn))) | (refine ifB ?_ ?_ <;> (intro hq; try (have hq' := hq; simp only [hqs] at hq'))))
        exact ⟨i + 1, _, by omega, ⟨by omega, hx⟩, .refl, by exact frA⟩
  · have hlt : decide ((i : Int) < l.length) = false := decide_eq_false (by omega)
    rw [show l.length - i = 0 by omega, idxPD] at hx
    rw [hx]
    as_aux_lemma =>
      repeat' (first | refine rnC ?_ | refine rnSB ?_ | refine rnG ?_ | refine rnU ?_ | ((fail_if_success (refine rnKn ?_)); refine rnP ?_ ?_ <;> (intro hq; try (have hq' := hq; simp only [hqs] at hq'))) | refine rkC ?_ | refine rkSB ?_ | refine rkF ?_ | refine rkU ?_ | ((fail_if_success (refine rkKn ?_)); refine rkP ?_ ?_ <;> (intro hq; try (have hq' := hq; simp only [hqs] at hq'))) | refine stp ?_ | refine ifT ?_ | refine ifF ?_ | (refine ifQ ?_ ?_ <;> (try (intro hn))) | (refine ifB ?_ ?_ <;> (intro hq; try (have hq' := hq; simp only [hqs] at hq'))))
      exact rt1 rfl rfl finS_p rfl
instance indexFuncDW_i {f : FuncId} {caps : List PVal} {pre : Prop} {p : Dot → Bool} {l : List Dot} {ex : Bool} [hf : FnT Tryz.prog f] [hp : FPD Tryz.prog f caps pre p] : PC Tryz.prog 140 [.p (.sl 2 (l.map dR) ex), .p (.fnv f caps)] (pre ∧ l.length ≤ 1000000000) (.p (.i (idxPD p l 0 l.length))) := ⟨fun h => indexFuncDW_w f caps hf p l ex h.2 (hp.call h.1)⟩
theorem containsFuncDW_w (f : FuncId) (caps : List PVal) (hf : FnT Tryz.prog f) (p : Dot → Bool) (l : List Dot) (ex : Bool) (h : l.length ≤ 1000000000) (hp : ∀ e, PCall Tryz.prog f ([dV e] ++ caps.map .p) (.p (.b (p e)))) : PCall Tryz.prog 114 [.p (.sl 2 (l.map dR) ex), .p (.fnv f caps)] (.p (.b (l.any p))) := by
  refine pcall_of Tryz.func114 rfl (fun w0 F S0 M0 => ?_)
  haveI : FPD Tryz.prog f caps True p := ⟨fun _ => hp⟩
  as_aux_lemma =>
    repeat' (first | refine rnC ?_ | refine rnSB ?_ | refine rnG ?_ | refine rnU ?_ | ((fail_if_success (refine rnKn ?_)); refine rnP ?_ ?_ <;> (intro hq; try (have hq' := hq; simp only [hqs] at hq'))) | refine rkC ?_ | refine rkSB ?_ | refine rkF ?_ | refine rkU ?_ | ((fail_if_success (refine rkKn ?_)); refine rkP ?_ ?_ <;> (intro hq; try (have hq' := hq; simp only [hqs] at hq'))) | refine stp ?_ | refine ifT ?_ | refine ifF ?_ | (refine ifQ ?_ ?_ <;> (try (intro hn))) | (refine ifB ?_ ?_ <;> (intro hq; try (have hq' := hq; simp only [hqs] at hq'))))
    refine rt1 rfl rfl finS_p (rb ?_)
    have := idxPD_any (p := p) (l := l) l.length 0 (by omega)
    rw [List.drop_zero] at this
    exact this.symm
instance containsFuncDW_i {f : FuncId} {caps : List PVal} {pre : Prop} {p : Dot → Bool} {l : List Dot} {ex : Bool} [hf : FnT Tryz.prog f] [hp : FPD Tryz.prog f caps pre p] : PC Tryz.prog 114 [.p (.sl 2 (l.map dR) ex), .p (.fnv f caps)] (pre ∧ l.length ≤ 1000000000) (.p (.b (l.any p))) := ⟨fun h => containsFuncDW_w f caps hf p l ex h.2 (hp.call h.1)⟩
end
theorem growX_c (n : Int) (h : 0 ≤ n ∧ n ≤ 1000000000000) : OCall Tryz.prog 99 [.p (.v (.slice none 0 0)), .p (.i n)] (fun _ => (0, none)) (.o (.osl 22 0 6 0 0)) (memL [(22, (1, some (.buf 77 6 [])))]) := by
  refine ocall_ofF 22 Tryz.func99 rfl (fun w0 F S0 M0 => ?_)
  repeat' (first | refine rnA ?_ | refine rnS ?_ | refine rnG ?_ | refine rnU ?_ | ((fail_if_success (refine rnKn ?_)); refine rnP ?_ ?_ <;> (intro hq; try (have hq' := hq; simp only [hqs] at hq'))) | refine rkA ?_ | refine rkS ?_ | refine rkF ?_ | refine rkU ?_ | ((fail_if_success (refine rkKn ?_)); refine rkP ?_ ?_ <;> (intro hq; try (have hq' := hq; simp only [hqs] at hq'))) | refine stp ?_ | refine ifT ?_ | refine ifF ?_ | (refine ifQ ?_ ?_ <;> (try (intro hn))) | (refine ifB ?_ ?_ <;> (intro hq; try (have hq' := hq; simp only [hqs] at hq'))))
  · exfalso; omega
  · refine rn_any (gd_n rfl rfl) rfl (lop_cap_nil rfl rfl rfl) ?_
    repeat' (first | refine rnA ?_ | refine rnS ?_ | refine rnG ?_ | refine rnU ?_ | ((fail_if_success (refine rnKn ?_)); refine rnP ?_ ?_ <;> (intro hq; try (have hq' := hq; simp only [hqs] at hq'))) | refine rkA ?_ | refine rkS ?_ | refine rkF ?_ | refine rkU ?_ | ((fail_if_success (refine rkKn ?_)); refine rkP ?_ ?_ <;> (intro hq; try (have hq' := hq; simp only [hqs] at hq'))) | refine stp ?_ | refine ifT ?_ | refine ifF ?_ | fail)
    refine ifB ?_ ?_ <;> (intro hq; simp only [hqs] at hq)
    · repeat' (first | refine rnA ?_ | refine rnS ?_ | refine rnG ?_ | refine rnU ?_ | ((fail_if_success (refine rnKn ?_)); refine rnP ?_ ?_ <;> (intro hq; try (have hq' := hq; simp only [hqs] at hq'))) | refine rkA ?_ | refine rkS ?_ | refine rkF ?_ | refine rkU ?_ | ((fail_if_success (refine rkKn ?_)); refine rkP ?_ ?_ <;> (intro hq; try (have hq' := hq; simp only [hqs] at hq'))) | refine stp ?_ | refine ifT ?_ | refine ifF ?_ | (refine ifQ ?_ ?_ <;> (try (intro hn))) | (refine ifB ?_ ?_ <;> (intro hq; try (have hq' := hq; simp only [hqs] at hq'))))
      refine rn_any (gd_n rfl rfl) rfl (lop_cap_nil rfl rfl rfl) ?_
      refine rn_any (gd_n rfl rfl) rfl (lop_sl_n0 rfl rfl rfl rfl) ?_
      repeat' (first | refine rnA ?_ | refine rnS ?_ | refine rnG ?_ | refine rnU ?_ | ((fail_if_success (refine rnKn ?_)); refine rnP ?_ ?_ <;> (intro hq; try (have hq' := hq; simp only [hqs] at hq'))) | refine rkA ?_ | refine rkS ?_ | refine rkF ?_ | refine rkU ?_ | ((fail_if_success (refine rkKn ?_)); refine rkP ?_ ?_ <;> (intro hq; try (have hq' := hq; simp only [hqs] at hq'))) | refine stp ?_ | refine ifT ?_ | refine ifF ?_ | (refine ifQ ?_ ?_ <;> (try (intro hn))) | (refine ifB ?_ ?_ <;> (intro hq; try (have hq' := hq; simp only [hqs] at hq'))))
      refine rn_any (gd_n rfl rfl) rfl (lop_ap_z (m := n.toNat) rfl rfl rfl rfl (by omega) rfl (by decide) rfl (by omega) (by simp only [maxLen]; omega) (by omega) rfl) ?_
      repeat' (first | refine rnA ?_ | refine rnS ?_ | refine rnG ?_ | refine rnU ?_ | ((fail_if_success (refine rnKn ?_)); refine rnP ?_ ?_ <;> (intro hq; try (have hq' := hq; simp only [hqs] at hq'))) | refine rkA ?_ | refine rkS ?_ | refine rkF ?_ | refine rkU ?_ | ((fail_if_success (refine rkKn ?_)); refine rkP ?_ ?_ <;> (intro hq; try (have hq' := hq; simp only [hqs] at hq'))) | refine stp ?_ | refine ifT ?_ | refine ifF ?_ | (refine ifQ ?_ ?_ <;> (try (intro hn))) | (refine ifB ?_ ?_ <;> (intro hq; try (have hq' := hq; simp only [hqs] at hq'))))
      refine rn_any (gd_n rfl rfl) rfl (lop_sl_oh rfl rfl rfl (by omega) (by omega) rfl) ?_
      as_aux_lemma =>
        repeat' (first | refine rnA ?_ | refine rnS ?_ | refine rnG ?_ | refine rnU ?_ | ((fail_if_success (refine rnKn ?_)); refine rnP ?_ ?_ <;> (intro hq; try (have hq' := hq; simp only [hqs] at hq'))) | refine rkA ?_ | refine rkS ?_ | refine rkF ?_ | refine rkU ?_ | ((fail_if_success (refine rkKn ?_)); refine rkP ?_ ?_ <;> (intro hq; try (have hq' := hq; simp only [hqs] at hq'))) | refine stp ?_ | refine ifT ?_ | refine ifF ?_ | (refine ifQ ?_ ?_ <;> (try (intro hn))) | (refine ifB ?_ ?_ <;> (intro hq; try (have hq' := hq; simp only [hqs] at hq'))))
        exact RetO.mk (ot1 rfl rfl (.one (.kosl rfl)) rfl) ⟨.buf, trivial⟩
    · refine aws_says (says_nil (t := 0) (o := 22) (ty := 77) (es := 6) rfl rfl (by decide)) ?_
      as_aux_lemma =>
        repeat' (first | refine rnA ?_ | refine rnS ?_ | refine rnG ?_ | refine rnU ?_ | ((fail_if_success (refine rnKn ?_)); refine rnP ?_ ?_ <;> (intro hq; try (have hq' := hq; simp only [hqs] at hq'))) | refine rkA ?_ | refine rkS ?_ | refine rkF ?_ | refine rkU ?_ | ((fail_if_success (refine rkKn ?_)); refine rkP ?_ ?_ <;> (intro hq; try (have hq' := hq; simp only [hqs] at hq'))) | refine stp ?_ | refine ifT ?_ | refine ifF ?_ | (refine ifQ ?_ ?_ <;> (try (intro hn))) | (refine ifB ?_ ?_ <;> (intro hq; try (have hq' := hq; simp only [hqs] at hq'))))
        exact RetO.mk (ot1 rfl rfl (.one (.kosl rfl)) rfl) ⟨.buf, trivial⟩
instance growX_i {c k : Nat} {n : Int} : OC Tryz.prog 99 [.p (.v (.slice none 0 0)), .p (.i n)] [] [(c, k)] (0 ≤ n ∧ n ≤ 1000000000000) (.o (.osl c k 6 0 0)) [(c, (k + 1, some (.buf 77 6 [])))] := ⟨fun h => (growX_c n h).fresh1 c k⟩

/-- texts, one behind the other -/
abbrev pieceX (p : List Evt × Bool) : List PVal := [PVal.sl 6 (p.1.map xR) p.2]
abbrev piecesX (ls : List (List Evt × Bool)) (ex : Bool) : AV := .p (.sl 1 (ls.map pieceX) ex)
def flatX (ls : List (List Evt × Bool)) (i : Nat) : List Evt := (ls.take i).flatMap (·.1)
theorem flatX_succ (ls : List (List Evt × Bool)) {i : Nat} (h : i < ls.length) : flatX ls (i + 1) = flatX ls i ++ (ls.getD i default).1 := by
  unfold flatX
  rw [List.take_succ_eq_append_getElem h, List.flatMap_append]
  simp [List.getD_eq_getElem?_getD, h]
theorem flatX_all (ls : List (List Evt × Bool)) : flatX ls ls.length = ls.flatMap (·.1) := by unfold flatX; rw [List.take_length]
theorem flatX_le (ls : List (List Evt × Bool)) (i : Nat) : (flatX ls i).length ≤ (ls.flatMap (·.1)).length := by
  conv => rhs; rw [← List.take_append_drop i ls, List.flatMap_append, List.length_append]
  exact Nat.le_add_right _ _

theorem concatX_c (ls : List (List Evt × Bool)) (ex : Bool) (h : (ls.flatMap (·.1)).length ≤ 1000000000 ∧ ls.length ≤ 1000000000) :
    OCall Tryz.prog 63 [piecesX ls ex] (fun _ => (0, none)) (.o (.osl 24 ls.length 6 0 (ls.flatMap (·.1)).length)) (memL [(24, (ls.length + 1, some (.buf 77 6 ((ls.flatMap (·.1)).map xR))))]) := by
  refine ocall_ofF 24 Tryz.func63 rfl (fun w0 F S0 M0 => ?_)
  obtain ⟨hf, hl⟩ := h
  repeat' (first | refine rnA ?_ | refine rnS ?_ | refine rnG ?_ | refine rnU ?_ | ((fail_if_success (refine rnKn ?_)); refine rnP ?_ ?_ <;> (intro hq; try (have hq' := hq; simp only [hqs] at hq'))) | refine rkA ?_ | refine rkS ?_ | refine rkF ?_ | refine rkU ?_ | ((fail_if_success (refine rkKn ?_)); refine rkP ?_ ?_ <;> (intro hq; try (have hq' := hq; simp only [hqs] at hq'))) | refine stp ?_ | refine ifT ?_ | refine ifF ?_ | (refine ifQ ?_ ?_ <;> (try (intro hn))) | (refine ifB ?_ ?_ <;> (intro hq; try (have hq' := hq; simp only [hqs] at hq'))))
  refine aws_loopS [3, 5, 11, 12, 13, 14, 15, 16, 17, 18, 19, 20, 21, 22] [] (fun (x : Nat × Int) => [(11, .p (.i x.1)), (3, .p (.i x.2))]) (fun x => [])
    (fun x => x.1 ≤ ls.length ∧ x.2 = ((flatX ls x.1).length : Int)) (fun x => ls.length - x.1) (0, 0) ⟨Nat.zero_le _, rfl⟩ (by exact knA) (by exact knA) ?_
  rintro ⟨i, n⟩ β γ ⟨hi, hn⟩
  simp only at hi hn
  have hfl := flatX_le ls i
  have hfs : i < ls.length → (flatX ls i).length + (ls.getD (i : Int).toNat default).1.length ≤ 1000000000 := fun hlt => by
    have h1 := flatX_le ls (i + 1)
    rw [flatX_succ ls hlt, List.length_append] at h1
    rw [Int.toNat_natCast]
    omega
  dsimp only
  repeat' (first | refine rnA ?_ | refine rnS ?_ | refine rnG ?_ | refine rnU ?_ | ((fail_if_success (refine rnKn ?_)); refine rnP ?_ ?_ <;> (intro hq; try (have hq' := hq; simp only [hqs] at hq'))) | refine rkA ?_ | refine rkS ?_ | refine rkF ?_ | refine rkU ?_ | ((fail_if_success (refine rkKn ?_)); refine rkP ?_ ?_ <;> (intro hq; try (have hq' := hq; simp only [hqs] at hq'))) | refine stp ?_ | refine ifT ?_ | refine ifF ?_ | (refine ifQ ?_ ?_ <;> (try (intro hn))) | (refine ifB ?_ ?_ <;> (intro hq; try (have hq' := hq; simp only [hqs] at hq'))))
  · exfalso; omega
  · apply ex2 (i + 1)
    apply Exists.intro
    refine ⟨?_, ⟨?_, ?_⟩, .refl, ?_⟩
    rotate_left 3
    (focus exact frA)
    · dsimp only; omega
    · dsimp only; omega
    · dsimp only
      rw [flatX_succ ls (by omega), List.length_append, hn, Int.toNat_natCast]
      omega
  · have hil : i = ls.length := by omega
    refine aws_loopS (6 :: [6, 8, 27, 28, 29, 30, 31, 32, 33, 34]) [24] (fun (x : Nat × List Evt) => [(27, .p (.i x.1)), (6, .o (.osl 24 x.1 6 0 x.2.length))]) (fun x => [(24, (x.1 + 1, some (.buf 77 6 (x.2.map xR))))])
      (fun x => x.1 ≤ ls.length ∧ x.2 = flatX ls x.1) (fun x => ls.length - x.1) (0, []) ⟨Nat.zero_le _, rfl⟩ (by exact knA) (by exact knA) ?_
    rintro ⟨k, fs⟩ β' γ' ⟨hk, hfk⟩
    simp only at hk hfk
    have hfl' := flatX_le ls k
    have hfs' : k < ls.length → fs.length + (ls.getD (k : Int).toNat default).1.length ≤ 1000000000 := fun hlt => by
      have h1 := flatX_le ls (k + 1)
      rw [flatX_succ ls hlt, List.length_append] at h1
      rw [Int.toNat_natCast, hfk]
      omega
    dsimp only
    as_aux_lemma =>
      repeat' (first | refine rnA ?_ | refine rnS ?_ | refine rnG ?_ | refine rnU ?_ | ((fail_if_success (refine rnKn ?_)); refine rnP ?_ ?_ <;> (intro hq; try (have hq' := hq; simp only [hqs] at hq'))) | refine rkA ?_ | refine rkS ?_ | refine rkF ?_ | refine rkU ?_ | ((fail_if_success (refine rkKn ?_)); refine rkP ?_ ?_ <;> (intro hq; try (have hq' := hq; simp only [hqs] at hq'))) | refine stp ?_ | refine ifT ?_ | refine ifF ?_ | (refine ifQ ?_ ?_ <;> (try (intro hn))) | (refine ifB ?_ ?_ <;> (intro hq; try (have hq' := hq; simp only [hqs] at hq'))))
      · apply ex2 (k + 1)
        apply Exists.intro
        refine ⟨?_, ⟨?_, ?_⟩, .refl, ?_⟩
        rotate_left 3
        (focus exact frA)
        · dsimp only; omega
        · dsimp only; omega
        · dsimp only
          rw [flatX_succ ls (by omega), hfk, Int.toNat_natCast]
      · have hkl : k = ls.length := by omega
        have hfa : fs = ls.flatMap (·.1) := by rw [hfk, hkl, flatX_all]
        subst hfa hkl
        exact RetO.mk (ot1 rfl rfl (.one (.kosl rfl)) rfl) ⟨.buf, trivial⟩
instance concatX_i {c k : Nat} {ls : List (List Evt × Bool)} {ex : Bool} : OC Tryz.prog 63 [piecesX ls ex] [] [(c, k)] ((ls.flatMap (·.1)).length ≤ 1000000000 ∧ ls.length ≤ 1000000000)
    (.o (.osl c (k + ls.length) 1 0 (ls.flatMap (·.1)).length)) [(c, (k + (ls.length + 1), some (.buf 77 6 ((ls.flatMap (·.1)).map xR))))] := ⟨fun h => (concatX_c ls ex h).fresh1 c k⟩
end Go.Proofs.YtebjmleheiefdaaGreat.Ca
namespace Go.Proofs.YtebjmleheiefdaaGreat.Ca
open Go Go.RowKit Go.Aw Go.Aw.Cart Go.Aw.Ord Go.Sort
set_option linter.unusedVariables false
set_option linter.unusedSimpArgs false
set_option maxRecDepth 8000
set_option maxHeartbeats 4000000
/-- one event, to an own slice -/
theorem lop_ap_evt {C : Ctx} {o : Oper} {σ : St} {T e : TypeId} {x y : Operand} {sz by_ es be : Nat} {ke : TK} {l : List Evt} {z : List Value} {ey : Bool} {ob g n len : Nat} {a b c d f : Int} {off : List Dot} (ho : o.op = .call ⟨.builtin .append, #[x, y], #[T, T]⟩) (hT : TI C.P T (.slice e) sz by_) (he : TI C.P e ke es be) (hz : TZ C.P e z) (hx : σ.look x = .o (.osl ob g es 0 len)) (hm : σ.mem ob = (n, some (.buf e es (l.map xR)))) (hn : n = g + 1) (hlr : len = l.length)
    (hy : σ.look y = .p (.sl es [[.i a, .i b, .i c, .i d, .k .u64 f, .sl 2 (off.map dR) false]] ey)) (hzl : z.length = es) (h63 : l.length + 1 ≤ maxLen) (hby : (l.length + 1) * be ≤ 140737488355328) (hd : dOk C o.dst = true) :
    LOp C o σ ⟨.o (.osl ob n es 0 (l ++ [(a, b, c, (d, f), off)]).length), [(ob, (n + 1, some (.buf e es ((l ++ [(a, b, c, (d, f), off)]).map xR))))]⟩ (fun q => q == ob) := lop_ap_o1 (f := xR) (v := (a, b, c, (d, f), off)) ho hT he hz hx hm hn hlr hy rfl hzl h63 hby hd
namespace M2
theorem lopC {C : Ctx} {o : Oper} {σ : St} {e : Eff} {ro : Nat → Bool} (h : LOp C o σ e ro := by
    first | (apply gCallF; (focus rfl); first | (apply lop_lend2; (focus rfl); (focus exact inferInstance); (focus rfl); (focus rfl); (focus rfl); (focus exact (List.length_map ..).symm); (focus first | exact lk_m1 rfl | exact lk_m2 rfl | exact lk_m3 rfl | exact lk_o rfl | exact lk_a2 rfl | exact lk_a3 rfl | exact lk_a4 rfl | exact lk_a1 rfl | exact lk_a5 rfl | exact lk_a6 rfl | exact lk_a7 rfl | exact lk_a8 rfl | exact lk_a rfl); (focus exact inferInstance); (focus exact inferInstance); (focus first | exact True.intro | assumption | rfl | omega | ((repeat' (first | assumption | refine And.intro ?_ ?_ | omega | rfl)); done) | fail); (focus exact RV.v); (focus rfl)) | (apply lop_lend1; (focus rfl); (focus exact inferInstance); (focus rfl); (focus rfl); (focus rfl); (focus exact (List.length_map ..).symm); (focus exact inferInstance); (focus first | exact True.intro | assumption | rfl | omega | ((repeat' (first | assumption | refine And.intro ?_ ?_ | omega | rfl)); done) | fail); (focus exact RV.v); (focus rfl))) | (apply lop_ap_evt; (focus rfl); (focus exact inferInstance); (focus exact inferInstance); (focus exact inferInstance); (focus rfl); (focus rfl); (focus rfl); (focus rfl); (focus rfl); (focus rfl); (focus first | (simp only [maxLen, List.length_append, List.length_cons, List.length_nil, List.length_take, List.length_drop, List.length_map]; omega) | omega); (focus first | (simp only [maxLen, List.length_append, List.length_cons, List.length_nil, List.length_take, List.length_drop, List.length_map]; omega) | omega); (focus rfl)) | (apply lop_ap_pair; (focus rfl); (focus exact inferInstance); (focus exact inferInstance); (focus exact inferInstance); (focus rfl); (focus rfl); (focus rfl); (focus rfl); (focus rfl); (focus rfl); (focus first | (simp only [maxLen, List.length_append, List.length_cons, List.length_nil, List.length_take, List.length_drop, List.length_map]; omega) | omega); (focus first | (simp only [maxLen, List.length_append, List.length_cons, List.length_nil, List.length_take, List.length_drop, List.length_map]; omega) | omega); (focus rfl)) | exact E6.lopC | (apply gLoad; (focus rfl); apply lop_ld_atn; (focus rfl); (focus exact inferInstance); (focus rfl); (focus rfl); (focus decide); (focus rfl); (focus repeat' (first | exact All2.nil | (apply All2.cons; (focus rfl)))); (focus rfl)) | (apply lop_build3; (focus rfl); (focus exact inferInstance); (focus exact inferInstance); (focus first | exact lk_m1 rfl | exact lk_m2 rfl | exact lk_m3 rfl | exact lk_o rfl | exact lk_a2 rfl | exact lk_a3 rfl | exact lk_a4 rfl | exact lk_a1 rfl | exact lk_a5 rfl | exact lk_a6 rfl | exact lk_a7 rfl | exact lk_a8 rfl | exact lk_a rfl); (focus first | exact lk_m1 rfl | exact lk_m2 rfl | exact lk_m3 rfl | exact lk_o rfl | exact lk_a2 rfl | exact lk_a3 rfl | exact lk_a4 rfl | exact lk_a1 rfl | exact lk_a5 rfl | exact lk_a6 rfl | exact lk_a7 rfl | exact lk_a8 rfl | exact lk_a rfl); (focus first | exact lk_m1 rfl | exact lk_m2 rfl | exact lk_m3 rfl | exact lk_o rfl | exact lk_a2 rfl | exact lk_a3 rfl | exact lk_a4 rfl | exact lk_a1 rfl | exact lk_a5 rfl | exact lk_a6 rfl | exact lk_a7 rfl | exact lk_a8 rfl | exact lk_a rfl); (focus decide); (focus first | exact sn2 rfl | exact sn3 rfl | exact sn4 rfl | exact sn1 rfl | exact sn5 rfl | exact sn6 rfl | exact sn7 rfl | exact sn8 rfl | exact sn9 rfl | exact sn10 rfl | exact sn11 rfl | exact sn12 rfl | rfl); (focus rfl)) | fail) : LOp C o σ e ro := h
section steps
variable {C : Ctx} {ops : Array Oper} {o : Oper} {rest : List Oper} {K : St → Prop} {σ : St} {e : Eff} {ro : Nat → Bool} {W : List (Nat × Nat)} {i : Nat}
theorem rnC {d : Nat} (hk : RunN C ops rest K (e.app (some d) σ)) (hg : Guard ops σ o true := by first | exact gd_n rfl rfl | exact gd_t rfl rfl rfl rfl | exact gd_t rfl rfl rfl (by assumption)) (hd : o.dst = some d := by rfl) (h : LOp C o σ e ro := by exact lopC) : RunN C ops (o :: rest) K σ := rn_any hg hd h hk
theorem rkC {d : Nat} (hk : RunK C ops W (i + 1) rest K (e.app (some d) σ)) (hg : Guard ops σ o true := by first | exact gd_n rfl rfl | exact gd_t rfl rfl rfl rfl | exact gd_t rfl rfl rfl (by assumption)) (hd' : o.dst = some d := by rfl) (hd : dOk C o.dst = true := by rfl) (h : LOp C o σ e ro := by exact lopC)
    (hro : ∀ x, ro x = true → okObj ops W i x = true := by first | exact fun _ => ro_none | exact ro_one rfl | exact ro_k1 rfl | exact ro_one (by kernel_rfl) | exact ro_k1 (by kernel_rfl) | exact ro_kIn (by decide)) (hob : ∀ p ∈ e.obj, (i, p.1) ∈ W := by first | exact ob_none | exact ob_one (by decide) | decide) : RunK C ops W i (o :: rest) K σ := rk_wr hg hd' hd h hro hob hk
end steps
end M2
open M2
theorem evt_dec (x y : Evt) : decide (x = y) = (decide (x.1 = y.1) && (decide (x.2.1 = y.2.1) && (decide (x.2.2.1 = y.2.2.1) && (decide (Evt.dot x = Evt.dot y) && decide (Evt.off x = Evt.off y))))) := by
  obtain ⟨a, b, c, d, e⟩ := x
  obtain ⟨a', b', c', d', e'⟩ := y
  rw [Bool.eq_iff_iff]
  simp only [Prod.mk.injEq, Bool.and_eq_true, decide_eq_true_eq]
theorem sameE_w (x y : Evt) (h : (Evt.off x).length ≤ 1000000000) : PCall Tryz.prog 102 [xV x, xV y] (.p (.b (decide (x = y)))) := by
  refine pcall_of Tryz.func102 rfl (fun w0 F S0 M0 => ?_)
  rw [evt_dec]
  obtain ⟨k, i, q, d, l⟩ := x
  obtain ⟨k', i', q', d', l'⟩ := y
  dsimp only [Evt.dot, Evt.off] at h ⊢
  by_cases h1 : k = k'
  · have e1 : decide (k = k') = true := decide_eq_true h1
    by_cases h2 : i = i'
    · have e2 : decide (i = i') = true := decide_eq_true h2
      by_cases h3 : q = q'
      · have e3 : decide (q = q') = true := decide_eq_true h3
        have e4 := vEqD d d'
        by_cases h4 : d = d'
        · rw [decide_eq_true h4] at e4
          rw [e1, e2, e3, decide_eq_true h4]
          as_aux_lemma =>
            repeat' (first | refine rnC ?_ | refine rnSB ?_ | refine rnG ?_ | refine rnU ?_ | ((fail_if_success (refine rnKn ?_)); refine rnP ?_ ?_ <;> (intro hq; try (have hq' := hq; simp only [hqs] at hq'))) | refine rkC ?_ | refine rkSB ?_ | refine rkF ?_ | refine rkU ?_ | ((fail_if_success (refine rkKn ?_)); refine rkP ?_ ?_ <;> (intro hq; try (have hq' := hq; simp only [hqs] at hq'))) | refine stp ?_ | refine aws_draws [] mixed (by kernel_rfl) ?_ | refine ifT ?_ | refine ifF ?_ | (refine ifQ ?_ ?_ <;> (try (intro hn))) | (refine ifB ?_ ?_ <;> (intro hq; try (have hq' := hq; simp only [hqs] at hq'))))
            exact rt1 rfl rfl finS_p rfl
        · rw [decide_eq_false h4] at e4
          rw [e1, e2, e3, decide_eq_false h4]
          as_aux_lemma =>
            repeat' (first | refine rnC ?_ | refine rnSB ?_ | refine rnG ?_ | refine rnU ?_ | ((fail_if_success (refine rnKn ?_)); refine rnP ?_ ?_ <;> (intro hq; try (have hq' := hq; simp only [hqs] at hq'))) | refine rkC ?_ | refine rkSB ?_ | refine rkF ?_ | refine rkU ?_ | ((fail_if_success (refine rkKn ?_)); refine rkP ?_ ?_ <;> (intro hq; try (have hq' := hq; simp only [hqs] at hq'))) | refine stp ?_ | refine aws_draws [] mixed (by kernel_rfl) ?_ | refine ifT ?_ | refine ifF ?_ | (refine ifQ ?_ ?_ <;> (try (intro hn))) | (refine ifB ?_ ?_ <;> (intro hq; try (have hq' := hq; simp only [hqs] at hq'))))
            exact rt1 rfl rfl finS_p rfl
      · have e3 : decide (q = q') = false := decide_eq_false h3
        rw [e1, e2, e3]
        as_aux_lemma =>
          repeat' (first | refine rnC ?_ | refine rnSB ?_ | refine rnG ?_ | refine rnU ?_ | ((fail_if_success (refine rnKn ?_)); refine rnP ?_ ?_ <;> (intro hq; try (have hq' := hq; simp only [hqs] at hq'))) | refine rkC ?_ | refine rkSB ?_ | refine rkF ?_ | refine rkU ?_ | ((fail_if_success (refine rkKn ?_)); refine rkP ?_ ?_ <;> (intro hq; try (have hq' := hq; simp only [hqs] at hq'))) | refine stp ?_ | refine aws_draws [] mixed (by kernel_rfl) ?_ | refine ifT ?_ | refine ifF ?_ | (refine ifQ ?_ ?_ <;> (try (intro hn))) | (refine ifB ?_ ?_ <;> (intro hq; try (have hq' := hq; simp only [hqs] at hq'))))
          exact rt1 rfl rfl finS_p rfl
    · have e2 : decide (i = i') = false := decide_eq_false h2
      rw [e1, e2]
      as_aux_lemma =>
        repeat' (first | refine rnC ?_ | refine rnSB ?_ | refine rnG ?_ | refine rnU ?_ | ((fail_if_success (refine rnKn ?_)); refine rnP ?_ ?_ <;> (intro hq; try (have hq' := hq; simp only [hqs] at hq'))) | refine rkC ?_ | refine rkSB ?_ | refine rkF ?_ | refine rkU ?_ | ((fail_if_success (refine rkKn ?_)); refine rkP ?_ ?_ <;> (intro hq; try (have hq' := hq; simp only [hqs] at hq'))) | refine stp ?_ | refine aws_draws [] mixed (by kernel_rfl) ?_ | refine ifT ?_ | refine ifF ?_ | (refine ifQ ?_ ?_ <;> (try (intro hn))) | (refine ifB ?_ ?_ <;> (intro hq; try (have hq' := hq; simp only [hqs] at hq'))))
        exact rt1 rfl rfl finS_p rfl
  · have e1 : decide (k = k') = false := decide_eq_false h1
    rw [e1]
    as_aux_lemma =>
      repeat' (first | refine rnC ?_ | refine rnSB ?_ | refine rnG ?_ | refine rnU ?_ | ((fail_if_success (refine rnKn ?_)); refine rnP ?_ ?_ <;> (intro hq; try (have hq' := hq; simp only [hqs] at hq'))) | refine rkC ?_ | refine rkSB ?_ | refine rkF ?_ | refine rkU ?_ | ((fail_if_success (refine rkKn ?_)); refine rkP ?_ ?_ <;> (intro hq; try (have hq' := hq; simp only [hqs] at hq'))) | refine stp ?_ | refine aws_draws [] mixed (by kernel_rfl) ?_ | refine ifT ?_ | refine ifF ?_ | (refine ifQ ?_ ?_ <;> (try (intro hn))) | (refine ifB ?_ ?_ <;> (intro hq; try (have hq' := hq; simp only [hqs] at hq'))))
      exact rt1 rfl rfl finS_p rfl
instance sameE_i {x y : Evt} : PC Tryz.prog 102 [xV x, xV y] ((Evt.off x).length ≤ 1000000000) (.p (.b (decide (x = y)))) := ⟨sameE_w x y⟩
theorem adds_w (x : Evt) : PCall Tryz.prog 71 [xV x] (.p (.b (addsE x))) := by
  refine pcall_of Tryz.func71 rfl (fun w0 F S0 M0 => ?_)
  unfold addsE
  by_cases h1 : x.1 = 1
  · have e1 : decide (x.1 = 1) = true := decide_eq_true h1
    rw [decide_eq_true (.inl h1)]
    as_aux_lemma =>
      repeat' (first | refine rnC ?_ | refine rnSB ?_ | refine rnG ?_ | refine rnU ?_ | ((fail_if_success (refine rnKn ?_)); refine rnP ?_ ?_ <;> (intro hq; try (have hq' := hq; simp only [hqs] at hq'))) | refine rkC ?_ | refine rkSB ?_ | refine rkF ?_ | refine rkU ?_ | ((fail_if_success (refine rkKn ?_)); refine rkP ?_ ?_ <;> (intro hq; try (have hq' := hq; simp only [hqs] at hq'))) | refine stp ?_ | refine aws_draws [] mixed (by kernel_rfl) ?_ | refine ifT ?_ | refine ifF ?_ | (refine ifQ ?_ ?_ <;> (try (intro hn))) | (refine ifB ?_ ?_ <;> (intro hq; try (have hq' := hq; simp only [hqs] at hq'))))
      exact rt1 rfl rfl finS_p rfl
  · have e1 : decide (x.1 = 1) = false := decide_eq_false h1
    rw [decide_eq_decide.2 (show (x.1 = 1 ∨ x.1 = 2) ↔ x.1 = 2 from ⟨fun k => k.resolve_left h1, .inr⟩)]
    as_aux_lemma =>
      repeat' (first | refine rnC ?_ | refine rnSB ?_ | refine rnG ?_ | refine rnU ?_ | ((fail_if_success (refine rnKn ?_)); refine rnP ?_ ?_ <;> (intro hq; try (have hq' := hq; simp only [hqs] at hq'))) | refine rkC ?_ | refine rkSB ?_ | refine rkF ?_ | refine rkU ?_ | ((fail_if_success (refine rkKn ?_)); refine rkP ?_ ?_ <;> (intro hq; try (have hq' := hq; simp only [hqs] at hq'))) | refine stp ?_ | refine aws_draws [] mixed (by kernel_rfl) ?_ | refine ifT ?_ | refine ifF ?_ | (refine ifQ ?_ ?_ <;> (try (intro hn))) | (refine ifB ?_ ?_ <;> (intro hq; try (have hq' := hq; simp only [hqs] at hq'))))
      exact rt1 rfl rfl finS_p rfl
instance adds_i {x : Evt} : PC Tryz.prog 71 [xV x] True (.p (.b (addsE x))) := ⟨fun _ => adds_w x⟩
end Go.Proofs.YtebjmleheiefdaaGreat.Ca
