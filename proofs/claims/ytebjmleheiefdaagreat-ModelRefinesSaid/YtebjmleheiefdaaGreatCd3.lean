/- dots: lists copied, and without some -/
import Derived.Test.YtebjmleheiefdaaGreatCaF
import Derived.Test.YtebjmleheiefdaaGreatCaH
import Derived.Test.YtebjmleheiefdaaGreatKw
namespace Go.Proofs.YtebjmleheiefdaaGreat.Ca
open Go Go.RowKit Go.Aw Go.Aw.Cart
set_option linter.unusedVariables false
set_option linter.unusedSimpArgs false
set_option maxRecDepth 8000
set_option maxHeartbeats 4000000
/-- a function's value that tells something of an entry -/
class FPD (P : Program) (f : FuncId) (caps : List PVal) (pre : outParam Prop) (p : outParam (Dot → Bool)) : Prop where
  call : pre → ∀ e, PCall P f ([dV e] ++ caps.map .p) (.p (.b (p e)))
def idxPD (p : Dot → Bool) (l : List Dot) (k : Nat) : Nat → Int
  | 0 => -1
  | n + 1 => if p (l.getD k default) = true then k else idxPD p l (k + 1) n
theorem idxPD_any {p : Dot → Bool} {l : List Dot} : ∀ (n k : Nat), k + n = l.length → decide (0 ≤ idxPD p l k n) = (l.drop k).any p
  | 0, k, h => by rw [List.drop_eq_nil_of_le (by omega)]; rfl
  | n + 1, k, h => by
    have hk : k < l.length := by omega
    have e : l.drop k = l.getD k default :: l.drop (k + 1) := by
      rw [List.getD_eq_getElem?_getD, List.getElem?_eq_getElem hk]; exact List.drop_eq_getElem_cons hk
    rw [idxPD, e, List.any_cons, ← idxPD_any n (k + 1) (by omega)]
    by_cases hp : p (l.getD k default) = true
    · rw [if_pos hp, hp]; exact decide_eq_true (by omega)
    · rw [if_neg hp, Bool.eq_false_iff.2 hp, Bool.false_or]
namespace DD
theorem lopC {C : Ctx} {o : Oper} {σ : St} {e : Eff} {ro : Nat → Bool} (h : LOp C o σ e ro := by
    first
      | (apply lop_callv1; (focus rfl); (focus rfl); (focus assumption); (focus first | exact lk_o rfl | exact lk_a rfl); (focus exact inferInstance); (focus exact inferInstance); (focus exact True.intro); (focus rfl))
      | exact lopQ
      | fail) : LOp C o σ e ro := h
section steps
variable {C : Ctx} {ops : Array Oper} {o : Oper} {rest : List Oper} {K : St → Prop} {σ : St} {e : Eff} {ro : Nat → Bool} {W : List (Nat × Nat)} {i : Nat}
theorem rnC {d : Nat} (hk : RunN C ops rest K (e.app (some d) σ)) (hg : Guard ops σ o true := by first | exact gd_n rfl rfl | exact gd_t rfl rfl rfl rfl | exact gd_t rfl rfl rfl (by assumption)) (hd : o.dst = some d := by rfl) (h : LOp C o σ e ro := by exact lopC) : RunN C ops (o :: rest) K σ := rn_any hg hd h hk
end steps
/-- the first one of which something holds, in an own slice -/
theorem indexFunc_o (f : FuncId) (caps : List PVal) (hf : FnT Tryz.prog f) (p : Dot → Bool) (n : Nat) (l : List Dot) (h : l.length ≤ 1000000000) (hp : ∀ e, PCall Tryz.prog f ([dV e] ++ caps.map .p) (.p (.b (p e)))) : OCall Tryz.prog 140 [.o (.osl 1000 n 2 0 l.length), .p (.fnv f caps)] (memL [(1000, (n + 1, some (.buf 74 2 (l.map dR))))]) (.p (.i (idxPD p l 0 l.length))) (memL [(1000, (n + 1, some (.buf 74 2 (l.map dR))))]) := by
  refine ocall_of1 Tryz.func140 rfl (fun w0 F S0 M0 => ?_)
  haveI : ∀ e, PC Tryz.prog f ([dV e] ++ caps.map .p) True (.p (.b (p e))) := fun e => ⟨fun _ => hp e⟩
  obtain ⟨A, hA⟩ : ∃ A, A = idxPD p l 0 l.length := ⟨_, rfl⟩
  rw [← hA]
  repeat' (first
      | refine rnC ?_
      | refine rnSQ ?_
      | refine rnG ?_
      | refine rnU ?_
      | ((fail_if_success (refine rnKn ?_)); refine rnP ?_ ?_ <;> (intro hq; try (have hq' := hq; simp only [hqs] at hq')))
      | refine rkC ?_
      | refine rkSQ ?_
      | refine rkF ?_
      | refine rkU ?_
      | ((fail_if_success (refine rkKn ?_)); refine rkP ?_ ?_ <;> (intro hq; try (have hq' := hq; simp only [hqs] at hq')))
      | refine stp ?_
      | refine ifT ?_
      | refine ifF ?_
      | (refine ifQ ?_ ?_ <;> (try (intro hn)))
      | (refine ifB ?_ ?_ <;> (intro hq; try (have hq' := hq; simp only [hqs] at hq'))))
  refine aws_loopS [4, 5, 8, 9, 10, 11, 12, 13, 14, 15, 16, 17, 18] [] (fun (i : Nat) => [(8, .p (.i i))]) (fun _ => []) (fun i => i ≤ l.length ∧ A = idxPD p l i (l.length - i)) (fun i => l.length - i) 0 ⟨Nat.zero_le _, hA⟩ (by exact knA) (by exact knA) ?_
  rintro i β γ ⟨hi, hx⟩
  by_cases hil : i < l.length
  · have hlt : decide ((i : Int) < l.length) = true := decide_eq_true (by omega)
    rw [show l.length - i = (l.length - (i + 1)) + 1 by omega, idxPD] at hx
    cases hv : p (l.getD (i : Int).toNat default) with
    | true =>
      have hv' := hv
      rw [Int.toNat_natCast] at hv'
      rw [if_pos hv'] at hx
      rw [hx]
      repeat' (first
          | refine rnC ?_
          | refine rnSQ ?_
          | refine rnG ?_
          | refine rnU ?_
          | ((fail_if_success (refine rnKn ?_)); refine rnP ?_ ?_ <;> (intro hq; try (have hq' := hq; simp only [hqs] at hq')))
          | refine rkC ?_
          | refine rkSQ ?_
          | refine rkF ?_
          | refine rkU ?_
          | ((fail_if_success (refine rkKn ?_)); refine rkP ?_ ?_ <;> (intro hq; try (have hq' := hq; simp only [hqs] at hq')))
          | refine stp ?_
          | refine ifT ?_
          | refine ifF ?_
          | (refine ifQ ?_ ?_ <;> (try (intro hn)))
          | (refine ifB ?_ ?_ <;> (intro hq; try (have hq' := hq; simp only [hqs] at hq'))))
      exact RetO.mk (ot1 rfl rfl finS_p rfl) ⟨.buf, trivial⟩
    | false =>
      have hv' := hv
      rw [Int.toNat_natCast] at hv'
      rw [if_neg (by rw [hv']; simp)] at hx
      repeat' (first
          | refine rnC ?_
          | refine rnSQ ?_
          | refine rnG ?_
          | refine rnU ?_
          | ((fail_if_success (refine rnKn ?_)); refine rnP ?_ ?_ <;> (intro hq; try (have hq' := hq; simp only [hqs] at hq')))
          | refine rkC ?_
          | refine rkSQ ?_
          | refine rkF ?_
          | refine rkU ?_
          | ((fail_if_success (refine rkKn ?_)); refine rkP ?_ ?_ <;> (intro hq; try (have hq' := hq; simp only [hqs] at hq')))
          | refine stp ?_
          | refine ifT ?_
          | refine ifF ?_
          | (refine ifQ ?_ ?_ <;> (try (intro hn)))
          | (refine ifB ?_ ?_ <;> (intro hq; try (have hq' := hq; simp only [hqs] at hq'))))
      exact ⟨i + 1, _, by omega, ⟨by omega, hx⟩, .refl, by exact frA⟩
  · have hlt : decide ((i : Int) < l.length) = false := decide_eq_false (by omega)
    rw [show l.length - i = 0 by omega, idxPD] at hx
    rw [hx]
    repeat' (first
        | refine rnC ?_
        | refine rnSQ ?_
        | refine rnG ?_
        | refine rnU ?_
        | ((fail_if_success (refine rnKn ?_)); refine rnP ?_ ?_ <;> (intro hq; try (have hq' := hq; simp only [hqs] at hq')))
        | refine rkC ?_
        | refine rkSQ ?_
        | refine rkF ?_
        | refine rkU ?_
        | ((fail_if_success (refine rkKn ?_)); refine rkP ?_ ?_ <;> (intro hq; try (have hq' := hq; simp only [hqs] at hq')))
        | refine stp ?_
        | refine ifT ?_
        | refine ifF ?_
        | (refine ifQ ?_ ?_ <;> (try (intro hn)))
        | (refine ifB ?_ ?_ <;> (intro hq; try (have hq' := hq; simp only [hqs] at hq'))))
    exact RetO.mk (ot1 rfl rfl finS_p rfl) ⟨.buf, trivial⟩
end DD
instance indexFD_i {f : FuncId} {caps : List PVal} {pre : Prop} {p : Dot → Bool} {c g n : Nat} {l : List Dot} [hf : FnT Tryz.prog f] [hp : FPD Tryz.prog f caps pre p] : OC Tryz.prog 140 [.o (.osl c g 2 0 l.length), .p (.fnv f caps)] [(c, (n, some (.buf 74 2 (l.map dR))))] [] (n = g + 1 ∧ pre ∧ l.length ≤ 1000000000) (.p (.i (idxPD p l 0 l.length))) [(c, (n, some (.buf 74 2 (l.map dR))))] := ⟨fun h => by obtain ⟨rfl, h0, h⟩ := h; exact (DD.indexFunc_o f caps hf p g l h (hp.call h0)).one c⟩
namespace DF
open DD
theorem idxPD_found {p : Dot → Bool} {l : List Dot} : ∀ (n k : Nat), k + n = l.length → (idxPD p l k n = -1 ∧ ∀ i, k ≤ i → i < l.length → p (l.getD i default) = false) ∨ ∃ i0 : Nat, idxPD p l k n = i0 ∧ k ≤ i0 ∧ i0 < l.length ∧ p (l.getD i0 default) = true ∧ ∀ i, k ≤ i → i < i0 → p (l.getD i default) = false
  | 0, k, h => .inl ⟨rfl, fun i h1 h2 => by omega⟩
  | n + 1, k, h => by
    rw [idxPD]
    by_cases hp : p (l.getD k default) = true
    · rw [if_pos hp]; exact .inr ⟨k, rfl, Nat.le_refl _, by omega, hp, fun i h1 h2 => by omega⟩
    · rw [if_neg hp]
      have hp' := Bool.eq_false_iff.2 hp
      rcases idxPD_found (p := p) (l := l) n (k + 1) (by omega) with ⟨h1, h2⟩ | ⟨i0, h1, h2, h3, h4, h5⟩
      · refine .inl ⟨h1, fun i a b => ?_⟩
        by_cases e : i = k
        · rw [e]; exact hp'
        · exact h2 i (by omega) b
      · refine .inr ⟨i0, h1, by omega, h3, h4, fun i a b => ?_⟩
        by_cases e : i = k
        · rw [e]; exact hp'
        · exact h5 i (by omega) b
theorem filter_take {p : Dot → Bool} {l : List Dot} {k : Nat} (hk : k ≤ l.length) (h : ∀ i : Nat, i < k → p (l.getD i default) = false) : (l.take k).filter (fun e => !p e) = l.take k := by
  rw [List.filter_eq_self]
  intro a ha
  obtain ⟨i, hi, rfl⟩ := List.mem_iff_getElem.1 ha
  rw [List.length_take] at hi
  have := h i (by omega : i < k)
  rw [List.getD_eq_getElem?_getD, List.getElem?_eq_getElem (by omega)] at this
  rw [List.getElem_take]
  simpa using this
theorem take_get {l : List Dot} {k : Nat} (h : k < l.length) : l.take (k + 1) = l.take k ++ [l.getD k default] := by
  rw [List.take_succ_eq_append_getElem h, List.getD_eq_getElem?_getD, List.getElem?_eq_getElem h]; rfl
end DF
namespace D3
/-- no entries, written out: they grow from now on -/
theorem lop_bzD {C : Ctx} {o : Oper} {σ : St} {T e : TypeId} {sz by_ : Nat} {ke : TK} {es be : Nat} {z : List Value} {d n0 : Nat} {mo0 : Option MO} (ho : o.op = .buildSlice T 0 #[]) (hT : TI C.P T (.slice e) sz by_) (he : TI C.P e ke es be) (hz : TZ C.P e z) (hdst : o.dst = some d) (hm0 : σ.mem d = (n0, mo0)) (hes : es = 2) (hd : dOk C o.dst = true) :
    LOp C o σ ⟨.o (.osl d n0 2 0 ([] : List Dot).length), [(d, (n0 + 1, some (.buf e 2 (([] : List Dot).map dR))))]⟩ (fun q => q == d) := by subst hes; exact lop_bo0 ho hT he hz hdst hm0 (by decide) hd
theorem lopC {C : Ctx} {o : Oper} {σ : St} {e : Eff} {ro : Nat → Bool} (h : LOp C o σ e ro := by
    first
      | (apply lop_bzD; (focus rfl); (focus exact inferInstance); (focus exact inferInstance); (focus exact inferInstance); (focus rfl); (focus rfl); (focus rfl); (focus rfl))
      | exact lopQ
      | fail) : LOp C o σ e ro := h
section steps
variable {C : Ctx} {ops : Array Oper} {o : Oper} {rest : List Oper} {K : St → Prop} {σ : St} {e : Eff} {ro : Nat → Bool} {W : List (Nat × Nat)} {i : Nat}
theorem rnC {d : Nat} (hk : RunN C ops rest K (e.app (some d) σ)) (hg : Guard ops σ o true := by first | exact gd_n rfl rfl | exact gd_t rfl rfl rfl rfl | exact gd_t rfl rfl rfl (by assumption)) (hd : o.dst = some d := by rfl) (h : LOp C o σ e ro := by exact lopC) : RunN C ops (o :: rest) K σ := rn_any hg hd h hk
theorem rkC {d : Nat} (hk : RunK C ops W (i + 1) rest K (e.app (some d) σ)) (hg : Guard ops σ o true := by first | exact gd_n rfl rfl | exact gd_t rfl rfl rfl rfl | exact gd_t rfl rfl rfl (by assumption)) (hd' : o.dst = some d := by rfl) (hd : dOk C o.dst = true := by rfl) (h : LOp C o σ e ro := by exact lopC)
    (hro : ∀ x, ro x = true → okObj ops W i x = true := by first | exact fun _ => ro_none | exact ro_one rfl | exact ro_one (by kernel_rfl) | exact ro_kIn (by decide)) (hob : ∀ p ∈ e.obj, (i, p.1) ∈ W := by first | exact ob_none | exact ob_one (by decide) | decide) : RunK C ops W i (o :: rest) K σ := rk_wr hg hd' hd h hro hob hk
end steps
end D3
open D3
end Go.Proofs.YtebjmleheiefdaaGreat.Ca
