/- carts: entries copied, and without some -/
import Derived.Test.YtbfjcohocedoaaaCaD
namespace Go.Proofs.Ytbfjcohocedoaaa.Ca
open Go Go.RowKit Go.Aw Go.Aw.Cart
set_option linter.unusedVariables false
set_option linter.unusedSimpArgs false
set_option maxRecDepth 8000
set_option maxHeartbeats 4000000
namespace D
theorem idxP_found {p : Ent → Bool} {l : List Ent} : ∀ (n k : Nat), k + n = l.length → (idxP p l k n = -1 ∧ ∀ i, k ≤ i → i < l.length → p (l.getD i default) = false) ∨ ∃ i0 : Nat, idxP p l k n = i0 ∧ k ≤ i0 ∧ i0 < l.length ∧ p (l.getD i0 default) = true ∧ ∀ i, k ≤ i → i < i0 → p (l.getD i default) = false
  | 0, k, h => .inl ⟨rfl, fun i h1 h2 => by omega⟩
  | n + 1, k, h => by
    rw [idxP]
    by_cases hp : p (l.getD k default) = true
    · rw [if_pos hp]; exact .inr ⟨k, rfl, Nat.le_refl _, by omega, hp, fun i h1 h2 => by omega⟩
    · rw [if_neg hp]
      have hp' := Bool.eq_false_iff.2 hp
      rcases idxP_found (p := p) (l := l) n (k + 1) (by omega) with ⟨h1, h2⟩ | ⟨i0, h1, h2, h3, h4, h5⟩
      · refine .inl ⟨h1, fun i a b => ?_⟩
        by_cases e : i = k
        · rw [e]; exact hp'
        · exact h2 i (by omega) b
      · refine .inr ⟨i0, h1, by omega, h3, h4, fun i a b => ?_⟩
        by_cases e : i = k
        · rw [e]; exact hp'
        · exact h5 i (by omega) b
theorem filter_take {p : Ent → Bool} {l : List Ent} {k : Nat} (hk : k ≤ l.length) (h : ∀ i : Nat, i < k → p (l.getD i default) = false) : (l.take k).filter (fun e => !p e) = l.take k := by
  rw [List.filter_eq_self]
  intro a ha
  obtain ⟨i, hi, rfl⟩ := List.mem_iff_getElem.1 ha
  rw [List.length_take] at hi
  have := h i (by omega : i < k)
  rw [List.getD_eq_getElem?_getD, List.getElem?_eq_getElem (by omega)] at this
  rw [List.getElem_take]
  simpa using this
theorem take_get {l : List Ent} {k : Nat} (h : k < l.length) : l.take (k + 1) = l.take k ++ [l.getD k default] := by
  rw [List.take_succ_eq_append_getElem h, List.getD_eq_getElem?_getD, List.getElem?_eq_getElem h]; rfl
end D
namespace D2
/-- no entries, written out: they grow from now on -/
theorem lop_bzE {C : Ctx} {o : Oper} {σ : St} {T e : TypeId} {sz by_ : Nat} {ke : TK} {es be : Nat} {z : List Value} {d n0 : Nat} {mo0 : Option MO} (ho : o.op = .buildSlice T 0 #[]) (hT : TI C.P T (.slice e) sz by_) (he : TI C.P e ke es be) (hz : TZ C.P e z) (hdst : o.dst = some d) (hm0 : σ.mem d = (n0, mo0)) (hes : es = 4) (hd : dOk C o.dst = true) :
    LOp C o σ ⟨.o (.osl d n0 4 0 ([] : List Ent).length), [(d, (n0 + 1, some (.buf e 4 (([] : List Ent).map eR))))]⟩ (fun q => q == d) := by subst hes; exact lop_bo0 ho hT he hz hdst hm0 (by decide) hd
theorem lopC {C : Ctx} {o : Oper} {σ : St} {e : Eff} {ro : Nat → Bool} (h : LOp C o σ e ro := by
    first
      | (apply lop_bzE; (focus rfl); (focus exact inferInstance); (focus exact inferInstance); (focus exact inferInstance); (focus rfl); (focus rfl); (focus rfl); (focus rfl))
      | exact lopQ
      | fail) : LOp C o σ e ro := h
section steps
variable {C : Ctx} {ops : Array Oper} {o : Oper} {rest : List Oper} {K : St → Prop} {σ : St} {e : Eff} {ro : Nat → Bool} {W : List (Nat × Nat)} {i : Nat}
theorem rnC {d : Nat} (hk : RunN C ops rest K (e.app (some d) σ)) (hg : Guard ops σ o true := by first | exact gd_n rfl rfl | exact gd_t rfl rfl rfl rfl | exact gd_t rfl rfl rfl (by assumption)) (hd : o.dst = some d := by rfl) (h : LOp C o σ e ro := by exact lopC) : RunN C ops (o :: rest) K σ := rn_any hg hd h hk
end steps
theorem clone_o (l : List Ent) (ex : Bool) (h0 : 0 < l.length) (h : l.length ≤ 1000000000) : OCall Try.prog 46 [.p (.sl 4 (l.map eR) ex)] (fun _ => (0, none)) (.o (.osl 5 1 4 0 (([] : List Ent) ++ l).length)) (memL [(5, (2, some (.buf 63 4 ((([] : List Ent) ++ l).map eR))))]) := by
  refine ocall_ofF 5 Try.func46 rfl (fun w0 F S0 M0 => ?_)
  as_aux_lemma =>
    repeat' (first
        | refine rnC ?_
        | refine rnSQ ?_
        | refine rnG ?_
        | refine rnU ?_
        | ((fail_if_success (refine rnKn ?_)); refine rnP ?_ ?_ <;> (intro hq; try (have hq' := hq; simp only [hqs] at hq')))
        | refine rkC ?_
        | refine rkSQ ?_
        | refine rkF ?_
        | refine rkU ?_
        | ((fail_if_success (refine rkKn ?_)); refine rkP ?_ ?_ <;> (intro hq; try (have hq' := hq; simp only [hqs] at hq')))
        | refine stp ?_
        | refine ifT ?_
        | refine ifF ?_
        | (refine ifQ ?_ ?_ <;> (try (intro hn)))
        | (refine ifB ?_ ?_ <;> (intro hq; try (have hq' := hq; simp only [hqs] at hq'))))
    · have := congrArg List.length hn
      rw [List.length_map, List.length_nil] at this; omega
    · exact RetO.mk (ot1 rfl rfl (.one (.kosl rfl)) rfl) ⟨.buf, trivial⟩
theorem clone_0 (ex : Bool) : PCall Try.prog 46 [.p (.sl 4 (([] : List Ent).map eR) ex)] (.p (.sl 4 (([] : List Ent).map eR) false)) := by
  refine pcall_of Try.func46 rfl (fun w0 F S0 M0 => ?_)
  as_aux_lemma =>
    repeat' (first
        | refine rnC ?_
        | refine rnSQ ?_
        | refine rnG ?_
        | refine rnU ?_
        | ((fail_if_success (refine rnKn ?_)); refine rnP ?_ ?_ <;> (intro hq; try (have hq' := hq; simp only [hqs] at hq')))
        | refine rkC ?_
        | refine rkSQ ?_
        | refine rkF ?_
        | refine rkU ?_
        | ((fail_if_success (refine rkKn ?_)); refine rkP ?_ ?_ <;> (intro hq; try (have hq' := hq; simp only [hqs] at hq')))
        | refine stp ?_
        | refine ifT ?_
        | refine ifF ?_
        | (refine ifQ ?_ ?_ <;> (try (intro hn)))
        | (refine ifB ?_ ?_ <;> (intro hq; try (have hq' := hq; simp only [hqs] at hq'))))
    · exact rt1 rfl rfl (.one .nil) rfl
    · exact rt1 rfl rfl (.one (finC_map (l := ([] : List Ent) ++ ([] : List Ent)) (f := eR) rfl rfl rfl rfl)) rfl
end D2
instance {c k : Nat} {l : List Ent} {ex : Bool} : OC Try.prog 46 [.p (.sl 4 (l.map eR) ex)] [] [(c, k)] (0 < l.length ∧ l.length ≤ 1000000000) (.o (.osl c (k + 1) 4 0 (([] : List Ent) ++ l).length)) [(c, (k + 2, some (.buf 63 4 ((([] : List Ent) ++ l).map eR))))] := ⟨fun h => (D2.clone_o l ex h.1 h.2).fresh1 c k⟩
instance {ex : Bool} : PC Try.prog 46 [.p (.sl 4 (([] : List Ent).map eR) ex)] True (.p (.sl 4 (([] : List Ent).map eR) false)) := ⟨fun _ => D2.clone_0 ex⟩
end Go.Proofs.Ytbfjcohocedoaaa.Ca
