/- wire: readers of bytes, a writer's bytes; small numbers; THE ABSTRACT WALK, part 27: an own slice, lent to a call that takes slices that stay; an own slice cut. Nothing here speaks of a program. -/
import Derived.Test.YtclcfjejpogdlaaGreatPP17
import Derived.Test.YtclcfjejpogdlaaGreatPP06
import Derived.Test.YtclcfjejpogdlaaGreatPP14
namespace Go.Proofs.YtclcfjejpogdlaaGreat.Wi
open Go Go.RowKit Go.Aw
set_option linter.unusedVariables false
set_option linter.unusedSimpArgs false
set_option maxRecDepth 8000
set_option maxHeartbeats 4000000
theorem lop_max_l {C : Ctx} {o : Oper} {σ : St} {x y : Operand} {T1 T2 : TypeId} {k : IntKind} {m n : Int} (ho : o.op = .call ⟨.builtin .max, #[x, y], #[T1, T2]⟩) (hx : σ.look x = .p (.v (.int k m))) (hy : σ.look y = .p (.v (.int k n))) (h : n ≤ m) (hd : dOk C o.dst = true) : LOp C o σ ⟨.p (.v (.int k m)), []⟩ (fun _ => false) := by
  have := lop_max ho hx hy hd
  rwa [if_neg (by omega)] at this
namespace W4
theorem lopC {C : Ctx} {o : Oper} {σ : St} {e : Eff} {ro : Nat → Bool} (h : LOp C o σ e ro := by
    first | (apply lop_max_l; (focus rfl); (focus rfl); (focus rfl); (focus omega); (focus rfl)) | (apply lop_osl_eqnil; (focus rfl); (focus exact inferInstance); (focus rfl); (focus exact ⟨_, _, _, rfl, rfl⟩); (focus rfl); (focus rfl)) | (apply lop_ap_exo; (focus rfl); (focus exact inferInstance); (focus exact inferInstance); (focus exact inferInstance); (focus rfl); (focus rfl); (focus rfl); (focus rfl); (focus rfl); (focus rfl); (focus first | (simp only [maxLen, List.length_append, List.length_cons, List.length_nil, List.length_take, List.length_drop, List.length_map]; omega) | omega); (focus first | (simp only [maxLen, List.length_append, List.length_cons, List.length_nil, List.length_take, List.length_drop, List.length_map]; omega) | omega); (focus rfl)) | exact W2.lopC | fail) : LOp C o σ e ro := h
section steps
variable {C : Ctx} {ops : Array Oper} {o : Oper} {rest : List Oper} {K : St → Prop} {σ : St} {e : Eff} {ro : Nat → Bool} {W : List (Nat × Nat)} {i : Nat}
theorem rnC {d : Nat} (hk : RunN C ops rest K (e.app (some d) σ)) (hg : Guard ops σ o true := by first | exact gd_n rfl rfl | exact gd_t rfl rfl rfl rfl | exact gd_t rfl rfl rfl (by assumption)) (hd : o.dst = some d := by rfl) (h : LOp C o σ e ro := by exact lopC) : RunN C ops (o :: rest) K σ := rn_any hg hd h hk
end steps
end W4
open W4
/-- bytes, copied -/
theorem cloneB_w (l : List Nat) (ex : Bool) (h : l.length ≤ 1000000000) : PCall Tryz.prog 156 [.p (.sl 1 (l.map bR) ex)] (.p (.sl 1 (l.map bR) false)) := by
  refine pcall_of Tryz.func156 rfl (fun w0 F S0 M0 => ?_)
  as_aux_lemma =>
    repeat' (first | refine rnC ?_ | refine rnSB ?_ | refine rnG ?_ | refine rnU ?_ | ((fail_if_success (refine rnKn ?_)); refine rnP ?_ ?_ <;> (intro hq; try (have hq' := hq; simp only [hqs] at hq'))) | refine rkC ?_ | refine rkSB ?_ | refine rkF ?_ | refine rkU ?_ | ((fail_if_success (refine rkKn ?_)); refine rkP ?_ ?_ <;> (intro hq; try (have hq' := hq; simp only [hqs] at hq'))) | refine stp ?_ | refine ifT ?_ | refine ifF ?_ | (refine ifQ ?_ ?_ <;> (try (intro hn))) | (refine ifB ?_ ?_ <;> (intro hq; try (have hq' := hq; simp only [hqs] at hq'))))
    · have e : l = [] := List.eq_nil_of_length_eq_zero (by have := congrArg List.length hn; rwa [List.length_map, List.length_nil] at this)
      subst e
      exact rt1 rfl rfl (.one .nil) rfl
    · exact rt1 rfl rfl finS_p rfl
instance cloneB_i {l : List Nat} {ex : Bool} : PC Tryz.prog 156 [.p (.sl 1 (l.map bR) ex)] (l.length ≤ 1000000000) (.p (.sl 1 (l.map bR) false)) := ⟨cloneB_w l ex⟩
theorem cloneO_o (n : Nat) (l : List Nat) (h : l.length ≤ 1000000000) : OCall Tryz.prog 156 [.o (.osl 1000 n 1 0 l.length)] (memL [(1000, (n + 1, some (.buf 5 1 (l.map bR))))]) (.p (.sl 1 (l.map bR) false)) (memL [(1000, (n + 1, some (.buf 5 1 (l.map bR))))]) := by
  refine ocall_of1 Tryz.func156 rfl (fun w0 F S0 M0 => ?_)
  as_aux_lemma =>
    repeat' (first | refine rnC ?_ | refine rnSB ?_ | refine rnG ?_ | refine rnU ?_ | ((fail_if_success (refine rnKn ?_)); refine rnP ?_ ?_ <;> (intro hq; try (have hq' := hq; simp only [hqs] at hq'))) | refine rkC ?_ | refine rkSB ?_ | refine rkF ?_ | refine rkU ?_ | ((fail_if_success (refine rkKn ?_)); refine rkP ?_ ?_ <;> (intro hq; try (have hq' := hq; simp only [hqs] at hq'))) | refine stp ?_ | refine ifT ?_ | refine ifF ?_ | (refine ifQ ?_ ?_ <;> (try (intro hn))) | (refine ifB ?_ ?_ <;> (intro hq; try (have hq' := hq; simp only [hqs] at hq'))))
    · have e : l = [] := List.eq_nil_of_length_eq_zero hn
      subst e
      exact RetO.mk (ot1 rfl rfl (.one .nil) rfl) ⟨.buf, trivial⟩
    · exact RetO.mk (ot1 rfl rfl finS_p rfl) ⟨.buf, trivial⟩
instance cloneO_i {c g n : Nat} {l : List Nat} : OC Tryz.prog 156 [.o (.osl c g 1 0 l.length)] [(c, (n, some (.buf 5 1 (l.map bR))))] [] (n = g + 1 ∧ l.length ≤ 1000000000) (.p (.sl 1 (l.map bR) false)) [(c, (n, some (.buf 5 1 (l.map bR))))] := ⟨fun h => by obtain ⟨rfl, h⟩ := h; exact (cloneO_o g l h).one c⟩
theorem from_o (l : List Nat) (ex : Bool) (h : l.length ≤ 1000000000) : OCall Tryz.prog 96 [.p (.sl 1 (l.map bR) ex)] (fun _ => (0, none)) (.o (.ptr 6 0 0)) (memL [(6, (1, some (rdM (l, 0))))]) := by
  refine ocall_ofF 6 Tryz.func96 rfl (fun w0 F S0 M0 => ?_)
  as_aux_lemma =>
    repeat' (first | refine rnC ?_ | refine rnSB ?_ | refine rnG ?_ | refine rnU ?_ | ((fail_if_success (refine rnKn ?_)); refine rnP ?_ ?_ <;> (intro hq; try (have hq' := hq; simp only [hqs] at hq'))) | refine rkC ?_ | refine rkSB ?_ | refine rkF ?_ | refine rkU ?_ | ((fail_if_success (refine rkKn ?_)); refine rkP ?_ ?_ <;> (intro hq; try (have hq' := hq; simp only [hqs] at hq'))) | refine stp ?_ | refine ifT ?_ | refine ifF ?_ | (refine ifQ ?_ ?_ <;> (try (intro hn))) | (refine ifB ?_ ?_ <;> (intro hq; try (have hq' := hq; simp only [hqs] at hq'))))
    exact RetO.mk (ot1 rfl rfl (.one (.kptr rfl)) rfl) ⟨.box finL_p, trivial⟩
instance from_i {c k : Nat} {l : List Nat} {ex : Bool} : OC Tryz.prog 96 [.p (.sl 1 (l.map bR) ex)] [] [(c, k)] (l.length ≤ 1000000000) (.o (.ptr c k 0)) [(c, (k + 1, some (rdM (l, 0))))] := ⟨fun h => (from_o l ex h).fresh1 c k⟩
theorem bytes_o (n : Nat) (bs : List Nat) (h : bs.length ≤ 1000000000) : OCall Tryz.prog 95 [.o (.ptr 1000 n 0)] (memL [(1000, (n + 1, some (.abs (wrA bs))))]) (.p (.sl 1 (bs.map bR) false)) (memL [(1000, (n + 1, some (.abs (wrA bs))))]) := by
  refine ocall_of1 Tryz.func95 rfl (fun w0 F S0 M0 => ?_)
  refine aws_says (says_unpack' (p := 1000) (o := 901) rfl rfl (List.length_map _) rfl (by decide)) ?_
  repeat' (first | refine rnC ?_ | refine rnSB ?_ | refine rnG ?_ | refine rnU ?_ | ((fail_if_success (refine rnKn ?_)); refine rnP ?_ ?_ <;> (intro hq; try (have hq' := hq; simp only [hqs] at hq'))) | refine rkC ?_ | refine rkSB ?_ | refine rkF ?_ | refine rkU ?_ | ((fail_if_success (refine rkKn ?_)); refine rkP ?_ ?_ <;> (intro hq; try (have hq' := hq; simp only [hqs] at hq'))) | refine stpR ?_ | refine ifT ?_ | refine ifF ?_ | (refine ifQ ?_ ?_ <;> (try (intro hn))) | (refine ifB ?_ ?_ <;> (intro hq; try (have hq' := hq; simp only [hqs] at hq'))))
  refine aws_says (says_pack (p := 1000) (o := 901) (pre := []) (post := []) rfl rfl rfl rfl (by rw [List.length_map]) (by decide)) ?_
  as_aux_lemma =>
    repeat' (first | refine rnC ?_ | refine rnSB ?_ | refine rnG ?_ | refine rnU ?_ | ((fail_if_success (refine rnKn ?_)); refine rnP ?_ ?_ <;> (intro hq; try (have hq' := hq; simp only [hqs] at hq'))) | refine rkC ?_ | refine rkSB ?_ | refine rkF ?_ | refine rkU ?_ | ((fail_if_success (refine rkKn ?_)); refine rkP ?_ ?_ <;> (intro hq; try (have hq' := hq; simp only [hqs] at hq'))) | refine stp ?_ | refine ifT ?_ | refine ifF ?_ | (refine ifQ ?_ ?_ <;> (try (intro hn))) | (refine ifB ?_ ?_ <;> (intro hq; try (have hq' := hq; simp only [hqs] at hq'))))
    exact RetO.mk (ot1 rfl rfl finS_p rfl) ⟨.abs, trivial⟩
instance bytes_i {c g n : Nat} {bs : List Nat} : OC Tryz.prog 95 [.o (.ptr c g 0)] [(c, (n, some (.abs (wrA bs))))] [] (n = g + 1 ∧ bs.length ≤ 1000000000) (.p (.sl 1 (bs.map bR) false)) [(c, (n, some (.abs (wrA bs))))] := ⟨fun h => by obtain ⟨rfl, h⟩ := h; exact (bytes_o g bs h).one c⟩
theorem small_o (n : Nat) (r : RS) (most : Int) (hm : most ≤ 9223372036854775807) (hb : ∀ b ∈ r.1, b < 256) (hl : r.1.length ≤ 1000000000) : OCall Tryz.prog 97 [.o (.ptr 1000 n 0), .p (.i most)] (memL [(1000, (n + 1, some (rdM r)))]) (.p (.i (smallS most r).1)) (memL [(1000, (n + 1, some (rdM (smallS most r).2)))]) := by
  refine ocall_of1 Tryz.func97 rfl (fun w0 F S0 M0 => ?_)
  have hf := numS_fit hb
  unfold smallS
  by_cases h0 : 0 ≤ most
  · obtain ⟨q, rfl⟩ : ∃ q : Nat, most = q := ⟨most.toNat, by omega⟩
    have d1 : decide (0 ≤ (q : Int)) = true := decide_eq_true h0
    have e : (decide (0 ≤ (q : Int)) && decide (((numS r).1 : Int) ≤ (q : Int))) = decide (((numS r).1 : Int) ≤ ((q % md .u64 : Nat) : Int)) := by
      rw [d1, Bool.true_and, Nat.mod_eq_of_lt (by show q < 18446744073709551616; omega)]
    rw [e]
    by_cases hz : (mustS (decide (((numS r).1 : Int) ≤ ((q % md .u64 : Nat) : Int))) (numS r).2).2 = 0
    · have d2 : decide ((mustS (decide (((numS r).1 : Int) ≤ ((q % md .u64 : Nat) : Int))) (numS r).2).2 ≠ 0) = false := decide_eq_false fun k => k hz
      have hle : ((numS r).1 : Int) ≤ (q : Int) := by
        have hz' := hz
        unfold mustS at hz'
        by_cases k : ((numS r).1 : Int) ≤ ((q % md .u64 : Nat) : Int)
        · rw [Nat.mod_eq_of_lt (by show q < 18446744073709551616; omega)] at k; exact k
        · rw [decide_eq_false k] at hz'
          by_cases k2 : (numS r).2.2 = 0
          · rw [if_pos ⟨k2, rfl⟩] at hz'; cases hz'
          · rw [if_neg (fun q => k2 q.1)] at hz'; exact absurd hz' k2
      rw [if_pos hz]
      as_aux_lemma =>
        repeat' (first | refine rnC ?_ | refine rnSB ?_ | refine rnG ?_ | refine rnU ?_ | ((fail_if_success (refine rnKn ?_)); refine rnP ?_ ?_ <;> (intro hq; try (have hq' := hq; simp only [hqs] at hq'))) | refine rkC ?_ | refine rkSB ?_ | refine rkF ?_ | refine rkU ?_ | ((fail_if_success (refine rkKn ?_)); refine rkP ?_ ?_ <;> (intro hq; try (have hq' := hq; simp only [hqs] at hq'))) | refine stp ?_ | refine ifT ?_ | refine ifF ?_ | (refine ifQ ?_ ?_ <;> (try (intro hn))) | (refine ifB ?_ ?_ <;> (intro hq; try (have hq' := hq; simp only [hqs] at hq'))))
        exact RetO.mk (ot1 rfl rfl finS_p rfl) ⟨.box finL_p, trivial⟩
    · have d2 : decide ((mustS (decide (((numS r).1 : Int) ≤ ((q % md .u64 : Nat) : Int))) (numS r).2).2 ≠ 0) = true := decide_eq_true hz
      rw [if_neg hz]
      as_aux_lemma =>
        repeat' (first | refine rnC ?_ | refine rnSB ?_ | refine rnG ?_ | refine rnU ?_ | ((fail_if_success (refine rnKn ?_)); refine rnP ?_ ?_ <;> (intro hq; try (have hq' := hq; simp only [hqs] at hq'))) | refine rkC ?_ | refine rkSB ?_ | refine rkF ?_ | refine rkU ?_ | ((fail_if_success (refine rkKn ?_)); refine rkP ?_ ?_ <;> (intro hq; try (have hq' := hq; simp only [hqs] at hq'))) | refine stp ?_ | refine ifT ?_ | refine ifF ?_ | (refine ifQ ?_ ?_ <;> (try (intro hn))) | (refine ifB ?_ ?_ <;> (intro hq; try (have hq' := hq; simp only [hqs] at hq'))))
        exact RetO.mk (ot1 rfl rfl finS_p rfl) ⟨.box finL_p, trivial⟩
  · have d1 : decide (0 ≤ most) = false := decide_eq_false h0
    rw [d1, Bool.false_and]
    by_cases hz : (mustS false (numS r).2).2 = 0
    · exfalso
      unfold mustS at hz
      by_cases k2 : (numS r).2.2 = 0
      · rw [if_pos ⟨k2, rfl⟩] at hz; cases hz
      · rw [if_neg (fun q => k2 q.1)] at hz; exact absurd hz k2
    · have d2 : decide ((mustS false (numS r).2).2 ≠ 0) = true := decide_eq_true hz
      rw [if_neg hz]
      as_aux_lemma =>
        repeat' (first | refine rnC ?_ | refine rnSB ?_ | refine rnG ?_ | refine rnU ?_ | ((fail_if_success (refine rnKn ?_)); refine rnP ?_ ?_ <;> (intro hq; try (have hq' := hq; simp only [hqs] at hq'))) | refine rkC ?_ | refine rkSB ?_ | refine rkF ?_ | refine rkU ?_ | ((fail_if_success (refine rkKn ?_)); refine rkP ?_ ?_ <;> (intro hq; try (have hq' := hq; simp only [hqs] at hq'))) | refine stp ?_ | refine ifT ?_ | refine ifF ?_ | (refine ifQ ?_ ?_ <;> (try (intro hn))) | (refine ifB ?_ ?_ <;> (intro hq; try (have hq' := hq; simp only [hqs] at hq'))))
        exact RetO.mk (ot1 rfl rfl finS_p rfl) ⟨.box finL_p, trivial⟩
end Go.Proofs.YtclcfjejpogdlaaGreat.Wi
namespace Go.Aw
open Go Go.RowKit
set_option linter.unusedVariables false
set_option linter.unusedSimpArgs false
/-- what hangs on no block -/
def RV (r : AV) : Prop := ∀ μ X Y v, r.holds μ X v → r.holds μ Y v
theorem RV.v {c : Value} : RV (.p (.v c)) := fun _ _ _ _ h => h
theorem RV.a {cs : List AC} (h : ∀ c ∈ cs, ∃ x, c = .p (.v x)) : RV (.a cs) := by
  rintro μ X Y v ⟨arr, rfl, h1⟩
  refine ⟨arr, rfl, h1.1, fun i c x hc hx => ?_⟩
  obtain ⟨y, rfl⟩ := h c (List.mem_of_getElem? hc)
  exact h1.2 i _ x hc hx
/-- an argument xs0 the callee sees it: an own slice stays while it is lent -/
def Lnd (σ : St) (ob : Nat) (a b : AV) : Prop :=
  Ent a b ∨ ∃ g es n ty rows, a = .o (.osl ob g es 0 rows.length) ∧ σ.mem ob = (n, some (.buf ty es rows)) ∧ n = g + 1 ∧ b = .p (.sl es rows false)
theorem lop_lend {C : Ctx} {o : Oper} {σ : St} {f : FuncId} {xs0 : Array Operand} {ts : Array TypeId} {args : List AV} {r : AV} {ob : Nat} (hfn : FnT C.P f) (ho : o.op = .call ⟨.value (.func f), xs0, ts⟩)
    (hE : All2 (Lnd σ ob) (xs0.toList.map σ.look) args) (hc : PCall C.P f args r) (hr : RV r) (hd : dOk C o.dst = true) : LOp C o σ ⟨r, []⟩ (fun y => y == ob) := by
  refine ⟨fun x m h => by simp at h, fun τ hl hm a w ⟨G, h⟩ K Q hK => ?_⟩
  have hmo : τ.mem ob = σ.mem ob := hm ob (by simp)
  have hE' : All2 (Lnd τ ob) (xs0.toList.map τ.look) args := by
    have : xs0.toList.map τ.look = xs0.toList.map σ.look := List.map_congr_left fun x hx => hl x (by rw [ho]; simp [Op.operands, Call.operands]; right; simpa using hx)
    rw [this]
    refine hE.mono fun a b k => ?_
    unfold Lnd at k ⊢
    rw [hmo]; exact k
  have hS : Wd.le ⟨w, G.S⟩ ⟨w, fun b => G.S b ∨ b ∈ G.φ ob⟩ := fun b hb => ⟨.inl hb, rfl⟩
  have hv : All2 (AV.holds Mu.none ⟨w, fun b => G.S b ∨ b ∈ G.φ ob⟩) args (xs0.toList.map a.eval) := by
    refine ⟨by have := hE'.1; simpa using this.symm, fun i av v hav hvv => ?_⟩
    rw [List.getElem?_map] at hvv
    cases hx : xs0.toList[i]? with
    | none => rw [hx] at hvv; cases hvv
    | some x =>
      rw [hx] at hvv; simp at hvv; subst hvv
      rcases hE'.2 i (τ.look x) av (by simp [List.getElem?_map, hx]) hav with k | ⟨g, es, n, ty, rows, e1, e2, e3, e4⟩
      · exact (k _ _ _ (h.look x)).mono (Mu.le.refl _) hS
      · have hlk := look_of h e1
        obtain ⟨m, c, p1, p2, p3⟩ := hlk
        obtain ⟨g', m', q1, q2, q3, q4, q5, q6⟩ := h.mem ob _ _ e2
        obtain rfl : g = g' := by omega
        rw [p1] at q2
        obtain rfl := Option.some.inj q2
        subst e4
        refine ⟨m.map fun b => (⟨b, 0 * es, none⟩ : Addr), c - 0, p3, by simpa using p2, by simpa using q4, by simp, ?_⟩
        rcases q6 with ⟨r1, r2, _⟩ | ⟨b, arr, r1, r2, r3, r4, r5⟩
        · simp only at r1 r2 p2
          subst r1
          exact ⟨List.eq_nil_of_length_eq_zero (by omega), by simpa using r2⟩
        · simp only at r1
          subst r1
          refine .inr ⟨rfl, .inr (by rw [r2]; simp), arr, ty, (0, 0), r3, fun i row hrow => ⟨(r5 i row hrow).1, fun j p hp => ?_⟩⟩
          obtain ⟨z, hz, hz'⟩ := (r5 i row hrow).2 j p hp
          exact ⟨z, by simpa using hz, p.mono hS hz'⟩
  obtain ⟨fn, h1, h2, h3⟩ := hfn.fn
  have hrun : (execOp a.eval o).run C.P w = .ok (.enter f (xs0.map a.eval)) w := by
    have e1 : a.eval (.func f) = .func (.func f) #[] #[] := rfl
    have hname : (fn.name == "runtime.NumGoroutine") = false := h2
    cases hbody : fn.body with
    | none => simp [hbody] at h3
    | some c => simp [execOp, ho, resolve, e1, Deferred.ofValue, invoke, callFunc, program, Sem.run, Sem.run_bind, h1, hbody, pure, show ¬ fn.name = "runtime.NumGoroutine" from by simpa using hname]
  refine wpIn_exec (by rw [ho]; intro c h; cases h) ?_
  rw [hrun, Oper.uponIn_enter]
  have h9 : Calls C.P f (xs0.toList.map a.eval).toArray w fun
      | .returned v, w'' => K (a.put o.dst v) w''
      | .panicked chain, w'' => Q (.panic chain) a w''
      | .outgrown, _ => LetsOut Q := by
    refine (hc w (fun b => G.S b ∨ b ∈ G.φ ob) _ (fun b hb => hb.elim (fun k => (h.sbd b k).1) fun k => (h.own ob b k).2) hv).mono ?_
    rintro e w' ⟨v, rfl, ⟨S', hS1, hS2, hrr⟩, hb, hdr⟩
    have h1 := h.world (Quiet.of_below hb hdr) (fun b => w.heap.size ≤ b ∧ b < w'.heap.size) (fun b hb => hb)
    exact hK _ _ ⟨_, h1.setv hd ((hr _ _ _ _ hrr).mono (Mu.none_le _) (Wd.le.refl _))⟩
  have e : (xs0.toList.map a.eval).toArray = xs0.map a.eval := by rw [← Array.toList_map]
  rw [e] at h9
  exact ⟨by simp [fz, Fence.wide], (callsIn_wide (n := 0)).2 h9⟩
theorem lop_lend1 {C : Ctx} {o : Oper} {σ : St} {f : FuncId} {x : Operand} {ts : Array TypeId} {r : AV} {pre : Prop} {ob g es n len : Nat} {ty : TypeId} {rows : List (List PVal)} (ho : o.op = .call ⟨.value (.func f), #[x], ts⟩) (hfn : FnT C.P f) (hx : σ.look x = .o (.osl ob g es 0 len)) (hm : σ.mem ob = (n, some (.buf ty es rows))) (hn : n = g + 1) (hl : len = rows.length)
    (hc : PC C.P f [.p (.sl es rows false)] pre r) (hpre : pre) (hr : RV r) (hd : dOk C o.dst = true) : LOp C o σ ⟨r, []⟩ (fun y => y == ob) := by
  subst hl
  exact lop_lend hfn ho (.cons (.inr ⟨g, es, n, ty, rows, hx, hm, hn, rfl⟩) .nil) (hc.call hpre) hr hd
theorem lop_lend2 {C : Ctx} {o : Oper} {σ : St} {f : FuncId} {x y : Operand} {ts : Array TypeId} {r ay : AV} {pre : Prop} {ob g es n len : Nat} {ty : TypeId} {rows : List (List PVal)} (ho : o.op = .call ⟨.value (.func f), #[x, y], ts⟩) (hfn : FnT C.P f) (hx : σ.look x = .o (.osl ob g es 0 len)) (hm : σ.mem ob = (n, some (.buf ty es rows))) (hn : n = g + 1) (hl : len = rows.length)
    (hy : σ.look y = ay) (hp : PureAV ay) (hc : PC C.P f [.p (.sl es rows false), ay] pre r) (hpre : pre) (hr : RV r) (hd : dOk C o.dst = true) : LOp C o σ ⟨r, []⟩ (fun y => y == ob) := by
  subst hl
  exact lop_lend hfn ho (.cons (.inr ⟨g, es, n, ty, rows, hx, hm, hn, rfl⟩) (.cons (.inl (by rw [hy]; exact hp.pure)) .nil)) (hc.call hpre) hr hd
end Go.Aw
