/- packs: a key's cart found; packs: a list with another cart: copies; THE ABSTRACT WALK, part 31: a call that is lent two objects. Nothing here speaks of a program. -/
import Derived.Test.YtclcfjejpogdlaaGreatPP23
import Derived.Test.YtclcfjejpogdlaaGreatPP20
namespace Go.Proofs.YtclcfjejpogdlaaGreat.Wi
open Go Go.RowKit Go.Aw Go.Aw.Cart Go.Proofs.YtclcfjejpogdlaaGreat.Ca
set_option linter.unusedVariables false
set_option linter.unusedSimpArgs false
set_option maxRecDepth 8000
set_option maxHeartbeats 4000000
abbrev kV (k : Kd) : AV := .a (kL k)
def idxK (p : Kd → Bool) (l : List Kd) (k : Nat) : Nat → Int
  | 0 => -1
  | n + 1 => if p (l.getD k default) = true then k else idxK p l (k + 1) n
theorem idxK_found {p : Kd → Bool} {l : List Kd} : ∀ (n k : Nat), k + n = l.length → (idxK p l k n = -1 ∧ ∀ i, k ≤ i → i < l.length → p (l.getD i default) = false) ∨ ∃ i0 : Nat, idxK p l k n = i0 ∧ k ≤ i0 ∧ i0 < l.length ∧ p (l.getD i0 default) = true ∧ ∀ i, k ≤ i → i < i0 → p (l.getD i default) = false
  | 0, k, h => .inl ⟨rfl, fun i h1 h2 => by omega⟩
  | n + 1, k, h => by
    rw [idxK]
    by_cases hp : p (l.getD k default) = true
    · rw [if_pos hp]; exact .inr ⟨k, rfl, Nat.le_refl _, by omega, hp, fun i h1 h2 => by omega⟩
    · rw [if_neg hp]
      have hp' := Bool.eq_false_iff.2 hp
      rcases idxK_found (p := p) (l := l) n (k + 1) (by omega) with ⟨h1, h2⟩ | ⟨i0, h1, h2, h3, h4, h5⟩
      · refine .inl ⟨h1, fun i a b => ?_⟩
        by_cases e : i = k
        · rw [e]; exact hp'
        · exact h2 i (by omega) b
      · refine .inr ⟨i0, h1, by omega, h3, h4, fun i a b => ?_⟩
        by_cases e : i = k
        · rw [e]; exact hp'
        · exact h5 i (by omega) b
namespace WC
theorem lopC {C : Ctx} {o : Oper} {σ : St} {e : Eff} {ro : Nat → Bool} (h : LOp C o σ e ro := by
    first | (apply lop_callv1; (focus rfl); (focus rfl); (focus assumption); (focus first | exact lk_o rfl | exact lk_a rfl); (focus exact inferInstance); (focus exact inferInstance); (focus exact True.intro); (focus rfl)) | (apply gBin; (focus rfl); apply lop_eqs; (focus rfl); (focus exact inferInstance); (focus rfl); (focus rfl); (focus assumption); (focus assumption); (focus rfl)) | exact W9.lopC | fail) : LOp C o σ e ro := h
section steps
variable {C : Ctx} {ops : Array Oper} {o : Oper} {rest : List Oper} {K : St → Prop} {σ : St} {e : Eff} {ro : Nat → Bool} {W : List (Nat × Nat)} {i : Nat}
theorem rnC {d : Nat} (hk : RunN C ops rest K (e.app (some d) σ)) (hg : Guard ops σ o true := by first | exact gd_n rfl rfl | exact gd_t rfl rfl rfl rfl | exact gd_t rfl rfl rfl (by assumption)) (hd : o.dst = some d := by rfl) (h : LOp C o σ e ro := by exact lopC) : RunN C ops (o :: rest) K σ := rn_any hg hd h hk
end steps
end WC
open WC
theorem indexFuncK_w (f : FuncId) (caps : List PVal) (hf : FnT Tryz.prog f) (p : Kd → Bool) (l : List Kd) (ex : Bool) (h : l.length ≤ 1000000000) (hp : ∀ e ∈ l, PCall Tryz.prog f ([kV e] ++ caps.map .p) (.p (.b (p e)))) : PCall Tryz.prog 226 [.p (.sl 10 (l.map kR) ex), .p (.fnv f caps)] (.p (.i (idxK p l 0 l.length))) := by
  refine pcall_of Tryz.func226 rfl (fun w0 F S0 M0 => ?_)
  obtain ⟨A, hA⟩ : ∃ A, A = idxK p l 0 l.length := ⟨_, rfl⟩
  rw [← hA]
  repeat' (first | refine rnC ?_ | refine rnSB ?_ | refine rnG ?_ | refine rnU ?_ | ((fail_if_success (refine rnKn ?_)); refine rnP ?_ ?_ <;> (intro hq; try (have hq' := hq; simp only [hqs] at hq'))) | refine rkC ?_ | refine rkSB ?_ | refine rkF ?_ | refine rkU ?_ | ((fail_if_success (refine rkKn ?_)); refine rkP ?_ ?_ <;> (intro hq; try (have hq' := hq; simp only [hqs] at hq'))) | refine stp ?_ | refine ifT ?_ | refine ifF ?_ | (refine ifQ ?_ ?_ <;> (try (intro hn))) | (refine ifB ?_ ?_ <;> (intro hq; try (have hq' := hq; simp only [hqs] at hq'))))
  refine aws_loopS [4, 5, 8, 9, 10, 11, 12, 13, 14, 15, 16, 17, 18] [] (fun (i : Nat) => [(8, .p (.i i))]) (fun _ => []) (fun i => i ≤ l.length ∧ A = idxK p l i (l.length - i)) (fun i => l.length - i) 0 ⟨Nat.zero_le _, hA⟩ (by exact knA) (by exact knA) ?_
  rintro i β γ ⟨hi, hx⟩
  by_cases hil : i < l.length
  · have hlt : decide ((i : Int) < l.length) = true := decide_eq_true (by omega)
    rw [show l.length - i = (l.length - (i + 1)) + 1 by omega, idxK] at hx
    haveI : PC Tryz.prog f ([kV (l.getD (i : Int).toNat default)] ++ caps.map .p) True (.p (.b (p (l.getD (i : Int).toNat default)))) := ⟨fun _ => hp _ (by rw [Int.toNat_natCast, getD_at hil]; exact List.getElem_mem _)⟩
    cases hv : p (l.getD (i : Int).toNat default) with
    | true =>
      have hv' := hv
      rw [Int.toNat_natCast] at hv'
      rw [if_pos hv'] at hx
      rw [hx]
      as_aux_lemma =>
        repeat' (first | refine rnC ?_ | refine rnSB ?_ | refine rnG ?_ | refine rnU ?_ | ((fail_if_success (refine rnKn ?_)); refine rnP ?_ ?_ <;> (intro hq; try (have hq' := hq; simp only [hqs] at hq'))) | refine rkC ?_ | refine rkSB ?_ | refine rkF ?_ | refine rkU ?_ | ((fail_if_success (refine rkKn ?_)); refine rkP ?_ ?_ <;> (intro hq; try (have hq' := hq; simp only [hqs] at hq'))) | refine stp ?_ | refine ifT ?_ | refine ifF ?_ | (refine ifQ ?_ ?_ <;> (try (intro hn))) | (refine ifB ?_ ?_ <;> (intro hq; try (have hq' := hq; simp only [hqs] at hq'))))
        exact rt1 rfl rfl finS_p rfl
    | false =>
      have hv' := hv
      rw [Int.toNat_natCast] at hv'
      rw [if_neg (by rw [hv']; simp)] at hx
      as_aux_lemma =>
        repeat' (first | refine rnC ?_ | refine rnSB ?_ | refine rnG ?_ | refine rnU ?_ | ((fail_if_success (refine rnKn ?_)); refine rnP ?_ ?_ <;> (intro hq; try (have hq' := hq; simp only [hqs] at hq'))) | refine rkC ?_ | refine rkSB ?_ | refine rkF ?_ | refine rkU ?_ | ((fail_if_success (refine rkKn ?_)); refine rkP ?_ ?_ <;> (intro hq; try (have hq' := hq; simp only [hqs] at hq'))) | refine stp ?_ | refine ifT ?_ | refine ifF ?_ | (refine ifQ ?_ ?_ <;> (try (intro hn))) | (refine ifB ?_ ?_ <;> (intro hq; try (have hq' := hq; simp only [hqs] at hq'))))
        exact ⟨i + 1, _, by omega, ⟨by omega, hx⟩, .refl, by exact frA⟩
  · have hlt : decide ((i : Int) < l.length) = false := decide_eq_false (by omega)
    rw [show l.length - i = 0 by omega, idxK] at hx
    rw [hx]
    as_aux_lemma =>
      repeat' (first | refine rnC ?_ | refine rnSB ?_ | refine rnG ?_ | refine rnU ?_ | ((fail_if_success (refine rnKn ?_)); refine rnP ?_ ?_ <;> (intro hq; try (have hq' := hq; simp only [hqs] at hq'))) | refine rkC ?_ | refine rkSB ?_ | refine rkF ?_ | refine rkU ?_ | ((fail_if_success (refine rkKn ?_)); refine rkP ?_ ?_ <;> (intro hq; try (have hq' := hq; simp only [hqs] at hq'))) | refine stp ?_ | refine ifT ?_ | refine ifF ?_ | (refine ifQ ?_ ?_ <;> (try (intro hn))) | (refine ifB ?_ ?_ <;> (intro hq; try (have hq' := hq; simp only [hqs] at hq'))))
      exact rt1 rfl rfl finS_p rfl
theorem with1_w (e : Kd) (key : List Nat) (h1 : okB e.1) (h2 : okB key) : PCall Tryz.prog 257 ([kV e] ++ [PVal.bx [.v (.string (strOf key))] 0].map .p) (.p (.b (bLt key e.1))) := by
  refine pcall_of Tryz.func257 rfl (fun w0 F S0 M0 => ?_)
  as_aux_lemma =>
    repeat' (first | refine rnC ?_ | refine rnSB ?_ | refine rnG ?_ | refine rnU ?_ | ((fail_if_success (refine rnKn ?_)); refine rnP ?_ ?_ <;> (intro hq; try (have hq' := hq; simp only [hqs] at hq'))) | refine rkC ?_ | refine rkSB ?_ | refine rkF ?_ | refine rkU ?_ | ((fail_if_success (refine rkKn ?_)); refine rkP ?_ ?_ <;> (intro hq; try (have hq' := hq; simp only [hqs] at hq'))) | refine stp ?_ | refine ifT ?_ | refine ifF ?_ | (refine ifQ ?_ ?_ <;> (try (intro hn))) | (refine ifB ?_ ?_ <;> (intro hq; try (have hq' := hq; simp only [hqs] at hq'))))
    exact rt1 rfl rfl finS_p rfl
end Go.Proofs.YtclcfjejpogdlaaGreat.Wi
namespace Go.Proofs.YtclcfjejpogdlaaGreat.Wi
open Go Go.RowKit Go.Aw Go.Aw.Cart Go.Proofs.YtclcfjejpogdlaaGreat.Ca
set_option linter.unusedVariables false
set_option linter.unusedSimpArgs false
set_option maxRecDepth 8000
set_option maxHeartbeats 4000000
/-- no element, written out: it grows from now on -/
theorem lop_bzK {C : Ctx} {o : Oper} {σ : St} {T e : TypeId} {sz by_ : Nat} {ke : TK} {be : Nat} {z : List Value} {d n0 : Nat} {mo0 : Option MO} (ho : o.op = .buildSlice T 0 #[]) (hT : TI C.P T (.slice e) sz by_) (he : TI C.P e ke 10 be) (hz : TZ C.P e z) (hdst : o.dst = some d) (hm0 : σ.mem d = (n0, mo0)) (hd : dOk C o.dst = true) :
    LOp C o σ ⟨.o (.osl d n0 10 0 ([] : List Kd).length), [(d, (n0 + 1, some (.buf e 10 (([] : List Kd).map kR))))]⟩ (fun q => q == d) := lop_bo0 ho hT he hz hdst hm0 (by decide) hd
/-- one element, written out: an own slice -/
theorem lop_boK {C : Ctx} {o : Oper} {σ : St} {T e : TypeId} {sz by_ : Nat} {ke : TK} {be : Nat} {z : List Value} {d n0 : Nat} {mo0 : Option MO} {x0 : Operand} {k : Kd} (ho : o.op = .buildSlice T 1 #[(0, x0)]) (hT : TI C.P T (.slice e) sz by_) (he : TI C.P e ke 10 be) (hz : TZ C.P e z) (hdst : o.dst = some d) (hm0 : σ.mem d = (n0, mo0)) (h0 : σ.look x0 = .a (kL k)) (hd : dOk C o.dst = true) :
    LOp C o σ ⟨.o (.osl d n0 10 0 1), [(d, (n0 + 1, some (.buf e 10 [kR k])))]⟩ (fun q => q == d) := lop_buildO (ps := [(0, kR k)]) ho hdst hm0 (.cons ⟨rfl, rfl, _, h0, rfl⟩ .nil) rfl (by decide) (by decide) hd
namespace WD
theorem lopC {C : Ctx} {o : Oper} {σ : St} {e : Eff} {ro : Nat → Bool} (h : LOp C o σ e ro := by
    first | (apply lop_bzK; (focus rfl); (focus exact inferInstance); (focus exact inferInstance); (focus exact inferInstance); (focus rfl); (focus rfl); (focus rfl)) | (apply lop_boK; (focus rfl); (focus exact inferInstance); (focus exact inferInstance); (focus exact inferInstance); (focus rfl); (focus rfl); (focus rfl); (focus rfl)) | (apply gLoad; (focus rfl); apply lop_ld_bf; (focus rfl); (focus exact inferInstance); (focus rfl); (focus rfl); (focus rfl); (focus rfl); (focus rfl); (focus omega); (focus exact inferInstance); (focus rfl); (focus rfl)) | exact WC.lopC | fail) : LOp C o σ e ro := h
section steps
variable {C : Ctx} {ops : Array Oper} {o : Oper} {rest : List Oper} {K : St → Prop} {σ : St} {e : Eff} {ro : Nat → Bool} {W : List (Nat × Nat)} {i : Nat}
theorem rnC {d : Nat} (hk : RunN C ops rest K (e.app (some d) σ)) (hg : Guard ops σ o true := by first | exact gd_n rfl rfl | exact gd_t rfl rfl rfl rfl | exact gd_t rfl rfl rfl (by assumption)) (hd : o.dst = some d := by rfl) (h : LOp C o σ e ro := by exact lopC) : RunN C ops (o :: rest) K σ := rn_any hg hd h hk
end steps
end WD
open WD
theorem cloneK_o (l : List Kd) (ex : Bool) (h : l.length ≤ 1000000) : OCall Tryz.prog 169 [.p (.sl 10 (l.map kR) ex)] (fun _ => (0, none)) (.o (.osl 5 1 10 0 l.length)) (memL [(5, (2, some (.buf 148 10 (l.map kR))))]) := by
  refine ocall_ofF 5 Tryz.func169 rfl (fun w0 F S0 M0 => ?_)
  repeat' (first | refine rnC ?_ | refine rnSB ?_ | refine rnG ?_ | refine rnU ?_ | ((fail_if_success (refine rnKn ?_)); refine rnP ?_ ?_ <;> (intro hq; try (have hq' := hq; simp only [hqs] at hq'))) | refine rkC ?_ | refine rkSB ?_ | refine rkF ?_ | refine rkU ?_ | ((fail_if_success (refine rkKn ?_)); refine rkP ?_ ?_ <;> (intro hq; try (have hq' := hq; simp only [hqs] at hq'))) | refine stpR ?_ | refine ifT ?_ | refine ifF ?_ | (refine ifQ ?_ ?_ <;> (try (intro hn))) | (refine ifB ?_ ?_ <;> (intro hq; try (have hq' := hq; simp only [hqs] at hq'))))
  · have e : l = [] := List.eq_nil_of_length_eq_zero (by have := congrArg List.length hn; rwa [List.length_map, List.length_nil] at this)
    subst e
    refine aws_says (says_bump (o := 5) (ty := 148) (es := 10) rfl (by decide)) ?_
    refine aws_says (says_nil (t := 2) (o := 5) (ty := 148) (es := 10) rfl rfl (by decide)) ?_
    as_aux_lemma =>
      repeat' (first | refine rnC ?_ | refine rnSB ?_ | refine rnG ?_ | refine rnU ?_ | ((fail_if_success (refine rnKn ?_)); refine rnP ?_ ?_ <;> (intro hq; try (have hq' := hq; simp only [hqs] at hq'))) | refine rkC ?_ | refine rkSB ?_ | refine rkF ?_ | refine rkU ?_ | ((fail_if_success (refine rkKn ?_)); refine rkP ?_ ?_ <;> (intro hq; try (have hq' := hq; simp only [hqs] at hq'))) | refine stp ?_ | refine ifT ?_ | refine ifF ?_ | (refine ifQ ?_ ?_ <;> (try (intro hn))) | (refine ifB ?_ ?_ <;> (intro hq; try (have hq' := hq; simp only [hqs] at hq'))))
      exact RetO.mk (ot1 rfl rfl (.one (.kosl rfl)) rfl) ⟨.buf, trivial⟩
  · repeat' (first
    | refine rnC ?_
    | refine rnSB ?_
    | refine rnG ?_
    | refine rnU ?_
    | ((fail_if_success (refine rnKn ?_)); refine rnP ?_ ?_ <;> (intro hq; try (have hq' := hq; simp only [hqs] at hq')))
    | refine rkC ?_
    | refine rkSB ?_
    | refine rkF ?_
    | refine rkU ?_
    | ((fail_if_success (refine rkKn ?_)); refine rkP ?_ ?_ <;> (intro hq; try (have hq' := hq; simp only [hqs] at hq')))
    | refine stp ?_
    | refine ifT ?_
    | refine ifF ?_
    | (refine ifQ ?_ ?_ <;> (try (intro hn)))
    | (refine ifB ?_ ?_ <;> (intro hq; try (have hq' := hq; simp only [hqs] at hq'))))
    exact RetO.mk (ot1 rfl rfl (.one (.kosl rfl)) rfl) ⟨.buf, trivial⟩
instance cloneK_i {c k : Nat} {l : List Kd} {ex : Bool} : OC Tryz.prog 169 [.p (.sl 10 (l.map kR) ex)] [] [(c, k)] (l.length ≤ 1000000) (.o (.osl c (k + 1) 10 0 l.length)) [(c, (k + 2, some (.buf 148 10 (l.map kR))))] := ⟨fun h => (cloneK_o l ex h).fresh1 c k⟩
end Go.Proofs.YtclcfjejpogdlaaGreat.Wi
namespace Go.Aw
open Go Go.RowKit
set_option linter.unusedVariables false
set_option linter.unusedSimpArgs false
/-- the names: object 1000 is the caller's c, object 1001 the caller's d -/
def rn2 (c d : Nat) : Rn := fun k => if k = 1000 then some (c, none) else if k = 1001 then some (d, none) else none
theorem OCall.two {P : Program} {f : FuncId} {args : List AV} {n nd : Nat} {mo md : MO} {r : AV} {m1 m2 : Nat × Option MO} (h : OCall P f args (memL [(1000, (n, some mo)), (1001, (nd, some md))]) r (memL [(1000, m1), (1001, m2)])) (c d : Nat) (hcd : c ≠ d) :
    OCAt P f (args.map (AV.ren (rn2 c d))) [(c, (n, some (mo.ren (rn2 c d)))), (d, (nd, some (md.ren (rn2 c d))))] [] (r.ren (rn2 c d)) [(c, (m1.1, m1.2.map (MO.ren (rn2 c d)))), (d, (m2.1, m2.2.map (MO.ren (rn2 c d))))] := by
  have e1 : rn2 c d 1000 = some (c, none) := by simp [rn2]
  have e2 : rn2 c d 1001 = some (d, none) := by simp [rn2]
  have e3 : ∀ k, k ≠ 1000 → k ≠ 1001 → rn2 c d k = none := fun k h1 h2 => by simp [rn2, h1, h2]
  refine ocat_of (rn2 c d) (fun x => if x = c then some (1000, none) else if x = d then some (1001, none) else none) h ?_ ?_ ?_ ?_ ?_ ?_
  · intro k c' s
    by_cases hk : k = 1000
    · subst hk
      rw [e1]
      by_cases h1 : c' = c
      · subst h1; simp
      · by_cases h2 : c' = d
        · subst h2; simp [h1, Ne.symm hcd, hcd]
        · simp [h1, h2, Ne.symm h1]
    · by_cases hkq : k = 1001
      · subst hkq
        rw [e2]
        by_cases h1 : c' = c
        · subst h1; simp [Ne.symm hcd]
        · by_cases h2 : c' = d
          · subst h2; simp [h1]
          · simp [h1, h2, Ne.symm h2]
      · rw [e3 k hk hkq]
        by_cases h1 : c' = c
        · subst h1; simp [Ne.symm hk]
        · by_cases h2 : c' = d
          · subst h2; simp [h1, Ne.symm hkq]
          · simp [h1, h2]
  · intro k c' hk
    by_cases h1 : k = 1000
    · subst h1; rw [e1] at hk; simp at hk; subst hk; simp [memL]
    · by_cases h2 : k = 1001
      · subst h2; rw [e2] at hk; simp at hk; subst hk; simp [memL]
      · rw [e3 k h1 h2] at hk; cases hk
  · intro k c' n' hk
    by_cases h1 : k = 1000
    · subst h1; rw [e1] at hk; simp at hk
    · by_cases h2 : k = 1001
      · subst h2; rw [e2] at hk; simp at hk
      · rw [e3 k h1 h2] at hk; cases hk
  · intro k hk
    have h1 : k ≠ 1000 := fun e => by subst e; rw [e1] at hk; cases hk
    have h2 : k ≠ 1001 := fun e => by subst e; rw [e2] at hk; cases hk
    simp [memL, h1, h2]
  · intro c' k s hc
    by_cases h1 : c' = c
    · subst h1
      simp at hc; obtain ⟨rfl, rfl⟩ := hc
      exact ⟨by simp [kIn], fun mem => by simp [putsM, memL]⟩
    · by_cases h2 : c' = d
      · subst h2
        simp [h1] at hc; obtain ⟨rfl, rfl⟩ := hc
        exact ⟨by simp [kIn], fun mem => by simp [putsM, memL, h1]⟩
      · simp [h1, h2] at hc
  · intro c' hc
    by_cases h1 : c' = c
    · simp [h1] at hc
    · by_cases h2 : c' = d
      · rw [if_neg h1, if_pos h2] at hc; cases hc
      · simp only [kIn, Bool.or_false, Bool.or_eq_false_iff]
        exact ⟨Bool.eq_false_iff.2 fun hb => h1 (Nat.eq_of_beq_eq_true hb), Bool.eq_false_iff.2 fun hb => h2 (Nat.eq_of_beq_eq_true hb)⟩
/-- a contract with two objects that are lent -/
theorem ocall_of22 {P : Program} {f : FuncId} {fn : Func} {body : Code} {args : List AV} {r : AV} {m0 m1 k0 k1 : Nat × Option MO} (hf : P.funcs[f]? = some fn) (hb : fn.body = some body)
    (h : ∀ w0 F S0 M0, AWs ⟨P, w0, F, S0, max args.length fn.ntmps, none, M0⟩ [body] (RetO P fn r (kIn [(1000, m1), (1001, k1)]) (memL [(1000, m1), (1001, k1)])) ⟨fun t => args.getD t .un, memL [(1000, m0), (1001, k0)]⟩) : OCall P f args (memL [(1000, m0), (1001, k0)]) r (memL [(1000, m1), (1001, k1)]) := by
  refine ocall_of (kIn [(1000, m1), (1001, k1)]) hf hb (fun o ho => ?_) h
  have h1 : o ≠ 1000 := fun e => by subst e; simp [kIn] at ho
  have h2 : o ≠ 1001 := fun e => by subst e; simp [kIn] at ho
  simp [memL, h1, h2]
/-- a part of an own slice that nobody looks at -/
theorem lop_sl_osl_u {C : Ctx} {o : Oper} {σ : St} {T e : TypeId} {x xl : Operand} {sz by_ : Nat} {ke : TK} {sze be : Nat} {ob g len : Nat} {kl : IntKind} {l : Int} (ho : o.op = .slice T x (some xl) none none) (hT : TI C.P T (.slice e) sz by_) (he : TI C.P e ke sze be) (hx : σ.look x = .o (.osl ob g sze 0 len)) (hlo : σ.look xl = .p (.v (.int kl l))) (h0 : 0 ≤ l) (h1 : l ≤ len) (hd : dOk C o.dst = true) :
    LOp C o σ ⟨.un, []⟩ (fun _ => false) :=
  lop_val hd fun τ a w G hl hm' hr => by
    obtain ⟨m, c, k1, k2, k3⟩ := look_of hr ((hl x (by simp [ho, Op.operands])).trans hx)
    have e1 := val_of hr ((hl xl (by simp [ho, Op.operands])).trans hlo)
    obtain ⟨d, hdd, hkk⟩ := hT.undd
    have : d = .slice e := by cases d <;> simp [TK.of] at hkk; rw [hkk]
    subst this
    simp only [Nat.zero_mul, Nat.sub_zero, Nat.zero_add] at k2 k3
    have hb : (Instr.sliceBounds true len c (some (.int kl l)) none none).run C.P w = .ok (l.toNat, len, c) w := by simp [Instr.sliceBounds, run_sb h0 h1]
    refine ⟨.slice (if c = l.toNat then m.map (fun b => (⟨b, 0, none⟩ : Addr)) else (m.map fun b => (⟨b, 0, none⟩ : Addr)).map (·.add (l.toNat * sze))) (len - l.toNat) (c - l.toNat), ?_, trivial⟩
    simp only [execOp, ho, Instr.sliceAt, Sem.run_bind, run_underlying hdd, Result.andThen_ok, Instr.slice, k3, e1, Option.map_some, Option.map_none, hb, he.run_sizeOf, Sem.run_pure]
end Go.Aw
