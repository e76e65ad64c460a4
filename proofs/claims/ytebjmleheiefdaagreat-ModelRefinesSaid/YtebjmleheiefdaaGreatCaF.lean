/- carts: entries copied, and without some -/
import Derived.Test.YtebjmleheiefdaaGreatCaD
namespace Go.Proofs.YtebjmleheiefdaaGreat.Ca
open Go Go.RowKit Go.Aw Go.Aw.Cart
set_option linter.unusedVariables false
set_option linter.unusedSimpArgs false
set_option maxRecDepth 8000
set_option maxHeartbeats 4000000
namespace D
theorem idxP_found {p : Ent → Bool} {l : List Ent} : ∀ (n k : Nat), k + n = l.length → (idxP p l k n = -1 ∧ ∀ i, k ≤ i → i < l.length → p (l.getD i default) = false) ∨ ∃ i0 : Nat, idxP p l k n = i0 ∧ k ≤ i0 ∧ i0 < l.length ∧ p (l.getD i0 default) = true ∧ ∀ i, k ≤ i → i < i0 → p (l.getD i default) = false
  | 0, k, h => .inl ⟨rfl, fun i h1 h2 => by omega⟩
  | n + 1, k, h => by
    rw [idxP]
    by_cases hp : p (l.getD k default) = true
    · rw [if_pos hp]; exact .inr ⟨k, rfl, Nat.le_refl _, by omega, hp, fun i h1 h2 => by omega⟩
    · rw [if_neg hp]
      have hp' := Bool.eq_false_iff.2 hp
      rcases idxP_found (p := p) (l := l) n (k + 1) (by omega) with ⟨h1, h2⟩ | ⟨i0, h1, h2, h3, h4, h5⟩
      · refine .inl ⟨h1, fun i a b => ?_⟩
        by_cases e : i = k
        · rw [e]; exact hp'
        · exact h2 i (by omega) b
      · refine .inr ⟨i0, h1, by omega, h3, h4, fun i a b => ?_⟩
        by_cases e : i = k
        · rw [e]; exact hp'
        · exact h5 i (by omega) b
theorem filter_take {p : Ent → Bool} {l : List Ent} {k : Nat} (hk : k ≤ l.length) (h : ∀ i : Nat, i < k → p (l.getD i default) = false) : (l.take k).filter (fun e => !p e) = l.take k := by
  rw [List.filter_eq_self]
  intro a ha
  obtain ⟨i, hi, rfl⟩ := List.mem_iff_getElem.1 ha
  rw [List.length_take] at hi
  have := h i (by omega : i < k)
  rw [List.getD_eq_getElem?_getD, List.getElem?_eq_getElem (by omega)] at this
  rw [List.getElem_take]
  simpa using this
theorem take_get {l : List Ent} {k : Nat} (h : k < l.length) : l.take (k + 1) = l.take k ++ [l.getD k default] := by
  rw [List.take_succ_eq_append_getElem h, List.getD_eq_getElem?_getD, List.getElem?_eq_getElem h]; rfl
theorem deleteFunc_o (f : FuncId) (caps : List PVal) (hf : FnT Tryz.prog f) (p : Ent → Bool) (n : Nat) (l : List Ent) (h : l.length ≤ 1000000000) (hp : ∀ e, PCall Tryz.prog f ([eV e] ++ caps.map .p) (.p (.b (p e)))) : OCall Tryz.prog 105 [.o (.osl 1000 n 4 0 l.length), .p (.fnv f caps)] (memL [(1000, (n + 1, some (.buf 119 4 (l.map eR))))]) (.o (.osl 1000 n 4 0 (l.filter fun e => !p e).length)) (memL [(1000, (n + 1, some (.buf 119 4 ((l.filter fun e => !p e).map eR))))]) := by
  refine ocall_of1 Tryz.func105 rfl (fun w0 F S0 M0 => ?_)
  haveI : ∀ e, PC Tryz.prog f ([eV e] ++ caps.map .p) True (.p (.b (p e))) := fun e => ⟨fun _ => hp e⟩
  haveI : FP Tryz.prog f caps True p := ⟨fun _ => hp⟩
  obtain ⟨L, hL⟩ : ∃ L, L = (l.filter fun e => !p e).length := ⟨_, rfl⟩
  obtain ⟨A, hA⟩ : ∃ A, A = l.filter fun e => !p e := ⟨_, rfl⟩
  rw [← hL, ← hA]
  rcases idxP_found (p := p) (l := l) l.length 0 (by omega) with ⟨hi, hno⟩ | ⟨i0, hi, -, hil, hpi, hno⟩
  · obtain ⟨I, hI⟩ : ∃ I, I = idxP p l 0 l.length := ⟨_, rfl⟩
    have d1 : decide (idxP p l 0 l.length = -1) = true := decide_eq_true hi
    have e := filter_take (Nat.le_refl _) (fun i hi => hno i (Nat.zero_le _) hi)
    rw [List.take_length] at e
    rw [e] at hL hA
    subst hL hA
    as_aux_lemma =>
      repeat' (first
          | refine rnC ?_
          | refine rnSQ ?_
          | refine rnG ?_
          | refine rnU ?_
          | ((fail_if_success (refine rnKn ?_)); refine rnP ?_ ?_ <;> (intro hq; try (have hq' := hq; simp only [hqs] at hq')))
          | refine rkC ?_
          | refine rkSQ ?_
          | refine rkF ?_
          | refine rkU ?_
          | ((fail_if_success (refine rkKn ?_)); refine rkP ?_ ?_ <;> (intro hq; try (have hq' := hq; simp only [hqs] at hq')))
          | refine stp ?_
          | refine ifT ?_
          | refine ifF ?_
          | (refine ifQ ?_ ?_ <;> (try (intro hn)))
          | (refine ifB ?_ ?_ <;> (intro hq; try (have hq' := hq; simp only [hqs] at hq'))))
      exact RetO.mk (ot1 rfl rfl (.one (.kosl rfl)) rfl) ⟨.buf, trivial⟩
  · have d1 : decide (idxP p l 0 l.length = -1) = false := decide_eq_false (by omega)
    have e0 : (l.take (i0 + 1)).filter (fun e => !p e) = l.take i0 := by
      rw [take_get hil, List.filter_append, filter_take (by omega) (fun i hi => hno i (Nat.zero_le _) hi)]
      rw [List.filter_cons_of_neg (by rw [hpi]; simp), List.filter_nil, List.append_nil]
    haveI hX : OC Tryz.prog 133 [.o (.osl 1000 n 4 0 l.length), .p (.fnv f caps)] [(1000, (n + 1, some (.buf 119 4 (l.map eR))))] [] True (.p (.i i0)) [(1000, (n + 1, some (.buf 119 4 (l.map eR))))] := ⟨fun _ => by rw [← hi]; exact (indexFunc_o f caps hf p n l h hp).one 1000⟩
    have d2 : decide ((i0 : Int) = -1) = false := decide_eq_false (by omega)
    repeat' (first
        | refine rnC ?_
        | refine rnSQ ?_
        | refine rnG ?_
        | refine rnU ?_
        | ((fail_if_success (refine rnKn ?_)); refine rnP ?_ ?_ <;> (intro hq; try (have hq' := hq; simp only [hqs] at hq')))
        | refine rkC ?_
        | refine rkSQ ?_
        | refine rkF ?_
        | refine rkU ?_
        | ((fail_if_success (refine rkKn ?_)); refine rkP ?_ ?_ <;> (intro hq; try (have hq' := hq; simp only [hqs] at hq')))
        | refine stp ?_
        | refine ifT ?_
        | refine ifF ?_
        | (refine ifQ ?_ ?_ <;> (try (intro hn)))
        | (refine ifB ?_ ?_ <;> (intro hq; try (have hq' := hq; simp only [hqs] at hq'))))
    refine aws_loopS [5, 6, 7, 16, 17, 18, 19, 20, 21, 22, 23, 24, 25, 26, 27, 28, 29, 30, 31, 32, 33, 34, 35] [1000, 7] (fun (x : Nat × Nat × List Ent × Option MO) => [(6, .p (.i (i0 + 1 + x.1 : Nat))), (5, .p (.i x.2.1))]) (fun x => [(1000, (n + 1, some (.buf 119 4 (x.2.2.1.map eR)))), (7, (x.1, x.2.2.2))])
      (fun x => i0 + 1 + x.1 ≤ l.length ∧ x.2.1 < i0 + 1 + x.1 ∧ x.2.2.1.length = l.length ∧ x.2.2.1.take x.2.1 = (l.take (i0 + 1 + x.1)).filter (fun e => !p e) ∧ ∀ i, i0 + 1 + x.1 ≤ i → x.2.2.1.getD i default = l.getD i default)
      (fun x => l.length - x.1) (0, i0, l, none) ⟨by dsimp only; omega, by dsimp only; omega, rfl, e0.symm, fun i _ => rfl⟩ (by exact knA) (by exact knA) ?_
    rintro ⟨j, q, m, c7⟩ β γ ⟨hjl, hqj, hml, hmc, hmr⟩
    simp only at hjl hqj hml hmc hmr
    dsimp only
    by_cases hjn : i0 + 1 + j < l.length
    · have hd2 : decide (((i0 + 1 + j : Nat) : Int) < (l.length : Int)) = true := decide_eq_true (by omega)
      have hm0 : m.getD ((i0 + 1 + j : Nat) : Int).toNat default = l.getD (i0 + 1 + j) default := by rw [Int.toNat_natCast]; exact hmr _ (by omega)
      have hct : (l.take (i0 + 1 + (j + 1))).filter (fun e => !p e) = (l.take (i0 + 1 + j)).filter (fun e => !p e) ++ (if p (l.getD (i0 + 1 + j) default) = true then [] else [l.getD (i0 + 1 + j) default]) := by
        rw [← Nat.add_assoc, take_get hjn, List.filter_append]
        congr 1
        by_cases hx : p (l.getD (i0 + 1 + j) default) = true
        · rw [if_pos hx, List.filter_cons_of_neg (by rw [hx]; simp), List.filter_nil]
        · rw [if_neg hx, List.filter_cons_of_pos (by rw [Bool.eq_false_iff.2 hx]; rfl), List.filter_nil]
      cases hv : p (m.getD ((i0 + 1 + j : Nat) : Int).toNat default) with
      | true =>
        have hv1 : (!p (m.getD ((i0 + 1 + j : Nat) : Int).toNat default)) = false := by rw [hv]; rfl
        rw [hm0] at hv
        rw [if_pos hv, List.append_nil] at hct
        as_aux_lemma =>
          repeat' (first
              | refine rnC ?_
              | refine rnSQ ?_
              | refine rnG ?_
              | refine rnU ?_
              | ((fail_if_success (refine rnKn ?_)); refine rnP ?_ ?_ <;> (intro hq; try (have hq' := hq; simp only [hqs] at hq')))
              | refine rkC ?_
              | refine rkSQ ?_
              | refine rkF ?_
              | refine rkU ?_
              | ((fail_if_success (refine rkKn ?_)); refine rkP ?_ ?_ <;> (intro hq; try (have hq' := hq; simp only [hqs] at hq')))
              | refine stp ?_
              | refine ifT ?_
              | refine ifF ?_
              | (refine ifQ ?_ ?_ <;> (try (intro hn)))
              | (refine ifB ?_ ?_ <;> (intro hq; try (have hq' := hq; simp only [hqs] at hq'))))
          exact ⟨(j + 1, q, m, some (.box 119 (eL (m.getD ((i0 + 1 + j : Nat) : Int).toNat default)))), _, by dsimp only; omega, ⟨by dsimp only; omega, by dsimp only; omega, hml, by dsimp only; rw [hmc, hct], fun i hi => hmr i (by dsimp only at hi; omega)⟩, .refl, by exact frA⟩
      | false =>
        have hv1 : (!p (m.getD ((i0 + 1 + j : Nat) : Int).toNat default)) = true := by rw [hv]; rfl
        rw [hm0] at hv
        rw [if_neg (by rw [hv]; simp)] at hct
        as_aux_lemma =>
          repeat' (first
              | refine rnC ?_
              | refine rnSQ ?_
              | refine rnG ?_
              | refine rnU ?_
              | ((fail_if_success (refine rnKn ?_)); refine rnP ?_ ?_ <;> (intro hq; try (have hq' := hq; simp only [hqs] at hq')))
              | refine rkC ?_
              | refine rkSQ ?_
              | refine rkF ?_
              | refine rkU ?_
              | ((fail_if_success (refine rkKn ?_)); refine rkP ?_ ?_ <;> (intro hq; try (have hq' := hq; simp only [hqs] at hq')))
              | refine stp ?_
              | refine ifT ?_
              | refine ifF ?_
              | (refine ifQ ?_ ?_ <;> (try (intro hn)))
              | (refine ifB ?_ ?_ <;> (intro hq; try (have hq' := hq; simp only [hqs] at hq'))))
          refine ⟨(j + 1, q + 1, m.set (q : Int).toNat (m.getD ((i0 + 1 + j : Nat) : Int).toNat default), some (.box 119 (eL (m.getD ((i0 + 1 + j : Nat) : Int).toNat default)))), _, by dsimp only; omega, ⟨by dsimp only; omega, by dsimp only; omega, by dsimp only; rw [List.length_set]; exact hml, ?_, fun i hi => ?_⟩, .refl, by exact frA⟩
          · dsimp only
            rw [hm0, hct, ← hmc, Int.toNat_natCast, List.take_succ_eq_append_getElem (by rw [List.length_set]; omega), List.getElem_set_self, List.take_set_of_le (Nat.le_refl _)]
          · dsimp only at hi ⊢
            rw [List.getD_eq_getElem?_getD, List.getElem?_set_ne (by rw [Int.toNat_natCast]; omega), ← List.getD_eq_getElem?_getD]
            exact hmr i (by omega)
    · have hd2 : decide (((i0 + 1 + j : Nat) : Int) < (l.length : Int)) = false := decide_eq_false (by omega)
      have e1 : l.take (i0 + 1 + j) = l := List.take_of_length_le (by omega)
      rw [e1] at hmc
      have hA' : A = m.take (q : Int).toNat := by rw [hA, ← hmc, Int.toNat_natCast]
      have hL' : L = (q : Int).toNat := by rw [hL, ← hmc, List.length_take, Int.toNat_natCast]; omega
      rw [hA', hL']
      as_aux_lemma =>
        repeat' (first
            | refine rnC ?_
            | refine rnSQ ?_
            | refine rnG ?_
            | refine rnU ?_
            | ((fail_if_success (refine rnKn ?_)); refine rnP ?_ ?_ <;> (intro hq; try (have hq' := hq; simp only [hqs] at hq')))
            | refine rkC ?_
            | refine rkSQ ?_
            | refine rkF ?_
            | refine rkU ?_
            | ((fail_if_success (refine rkKn ?_)); refine rkP ?_ ?_ <;> (intro hq; try (have hq' := hq; simp only [hqs] at hq')))
            | refine stp ?_
            | refine ifT ?_
            | refine ifF ?_
            | (refine ifQ ?_ ?_ <;> (try (intro hn)))
            | (refine ifB ?_ ?_ <;> (intro hq; try (have hq' := hq; simp only [hqs] at hq'))))
        exact RetO.mk (ot1 rfl rfl (.one (.kosl rfl)) rfl) ⟨.buf, trivial⟩
theorem deleteFunc_0 (f : FuncId) (caps : List PVal) (hf : FnT Tryz.prog f) (p : Ent → Bool) (ex : Bool) (hp : ∀ e, PCall Tryz.prog f ([eV e] ++ caps.map .p) (.p (.b (p e)))) : PCall Tryz.prog 105 [.p (.sl 4 (([] : List Ent).map eR) ex), .p (.fnv f caps)] (.p (.sl 4 (([] : List Ent).map eR) ex)) := by
  refine pcall_of Tryz.func105 rfl (fun w0 F S0 M0 => ?_)
  haveI : FP Tryz.prog f caps True p := ⟨fun _ => hp⟩
  have d1 : decide (idxP p [] 0 ([] : List Ent).length = -1) = true := rfl
  as_aux_lemma =>
    repeat' (first
        | refine rnC ?_
        | refine rnSQ ?_
        | refine rnG ?_
        | refine rnU ?_
        | ((fail_if_success (refine rnKn ?_)); refine rnP ?_ ?_ <;> (intro hq; try (have hq' := hq; simp only [hqs] at hq')))
        | refine rkC ?_
        | refine rkSQ ?_
        | refine rkF ?_
        | refine rkU ?_
        | ((fail_if_success (refine rkKn ?_)); refine rkP ?_ ?_ <;> (intro hq; try (have hq' := hq; simp only [hqs] at hq')))
        | refine stp ?_
        | refine ifT ?_
        | refine ifF ?_
        | (refine ifQ ?_ ?_ <;> (try (intro hn)))
        | (refine ifB ?_ ?_ <;> (intro hq; try (have hq' := hq; simp only [hqs] at hq'))))
    exact rt1 rfl rfl finS_p rfl
end D
namespace D2
/-- no entries, written out: they grow from now on -/
theorem lop_bzE {C : Ctx} {o : Oper} {σ : St} {T e : TypeId} {sz by_ : Nat} {ke : TK} {es be : Nat} {z : List Value} {d n0 : Nat} {mo0 : Option MO} (ho : o.op = .buildSlice T 0 #[]) (hT : TI C.P T (.slice e) sz by_) (he : TI C.P e ke es be) (hz : TZ C.P e z) (hdst : o.dst = some d) (hm0 : σ.mem d = (n0, mo0)) (hes : es = 4) (hd : dOk C o.dst = true) :
    LOp C o σ ⟨.o (.osl d n0 4 0 ([] : List Ent).length), [(d, (n0 + 1, some (.buf e 4 (([] : List Ent).map eR))))]⟩ (fun q => q == d) := by subst hes; exact lop_bo0 ho hT he hz hdst hm0 (by decide) hd
theorem lopC {C : Ctx} {o : Oper} {σ : St} {e : Eff} {ro : Nat → Bool} (h : LOp C o σ e ro := by
    first
      | (apply lop_bzE; (focus rfl); (focus exact inferInstance); (focus exact inferInstance); (focus exact inferInstance); (focus rfl); (focus rfl); (focus rfl); (focus rfl))
      | exact lopQ
      | fail) : LOp C o σ e ro := h
section steps
variable {C : Ctx} {ops : Array Oper} {o : Oper} {rest : List Oper} {K : St → Prop} {σ : St} {e : Eff} {ro : Nat → Bool} {W : List (Nat × Nat)} {i : Nat}
theorem rnC {d : Nat} (hk : RunN C ops rest K (e.app (some d) σ)) (hg : Guard ops σ o true := by first | exact gd_n rfl rfl | exact gd_t rfl rfl rfl rfl | exact gd_t rfl rfl rfl (by assumption)) (hd : o.dst = some d := by rfl) (h : LOp C o σ e ro := by exact lopC) : RunN C ops (o :: rest) K σ := rn_any hg hd h hk
end steps
theorem clone_o (l : List Ent) (ex : Bool) (h0 : 0 < l.length) (h : l.length ≤ 1000000000) : OCall Tryz.prog 106 [.p (.sl 4 (l.map eR) ex)] (fun _ => (0, none)) (.o (.osl 5 1 4 0 (([] : List Ent) ++ l).length)) (memL [(5, (2, some (.buf 119 4 ((([] : List Ent) ++ l).map eR))))]) := by
  refine ocall_ofF 5 Tryz.func106 rfl (fun w0 F S0 M0 => ?_)
  as_aux_lemma =>
    repeat' (first
        | refine rnC ?_
        | refine rnSQ ?_
        | refine rnG ?_
        | refine rnU ?_
        | ((fail_if_success (refine rnKn ?_)); refine rnP ?_ ?_ <;> (intro hq; try (have hq' := hq; simp only [hqs] at hq')))
        | refine rkC ?_
        | refine rkSQ ?_
        | refine rkF ?_
        | refine rkU ?_
        | ((fail_if_success (refine rkKn ?_)); refine rkP ?_ ?_ <;> (intro hq; try (have hq' := hq; simp only [hqs] at hq')))
        | refine stp ?_
        | refine ifT ?_
        | refine ifF ?_
        | (refine ifQ ?_ ?_ <;> (try (intro hn)))
        | (refine ifB ?_ ?_ <;> (intro hq; try (have hq' := hq; simp only [hqs] at hq'))))
    · have := congrArg List.length hn
      rw [List.length_map, List.length_nil] at this; omega
    · exact RetO.mk (ot1 rfl rfl (.one (.kosl rfl)) rfl) ⟨.buf, trivial⟩
theorem clone_0 (ex : Bool) : PCall Tryz.prog 106 [.p (.sl 4 (([] : List Ent).map eR) ex)] (.p (.sl 4 (([] : List Ent).map eR) false)) := by
  refine pcall_of Tryz.func106 rfl (fun w0 F S0 M0 => ?_)
  as_aux_lemma =>
    repeat' (first
        | refine rnC ?_
        | refine rnSQ ?_
        | refine rnG ?_
        | refine rnU ?_
        | ((fail_if_success (refine rnKn ?_)); refine rnP ?_ ?_ <;> (intro hq; try (have hq' := hq; simp only [hqs] at hq')))
        | refine rkC ?_
        | refine rkSQ ?_
        | refine rkF ?_
        | refine rkU ?_
        | ((fail_if_success (refine rkKn ?_)); refine rkP ?_ ?_ <;> (intro hq; try (have hq' := hq; simp only [hqs] at hq')))
        | refine stp ?_
        | refine ifT ?_
        | refine ifF ?_
        | (refine ifQ ?_ ?_ <;> (try (intro hn)))
        | (refine ifB ?_ ?_ <;> (intro hq; try (have hq' := hq; simp only [hqs] at hq'))))
    · exact rt1 rfl rfl (.one .nil) rfl
    · exact rt1 rfl rfl (.one (finC_map (l := ([] : List Ent) ++ ([] : List Ent)) (f := eR) rfl rfl rfl rfl)) rfl
end D2
instance {f : FuncId} {caps : List PVal} {pre : Prop} {p : Ent → Bool} {c g n : Nat} {l : List Ent} [hf : FnT Tryz.prog f] [hp : FP Tryz.prog f caps pre p] : OC Tryz.prog 105 [.o (.osl c g 4 0 l.length), .p (.fnv f caps)] [(c, (n, some (.buf 119 4 (l.map eR))))] [] (n = g + 1 ∧ pre ∧ l.length ≤ 1000000000) (.o (.osl c g 4 0 (l.filter fun e => !p e).length)) [(c, (n, some (.buf 119 4 ((l.filter fun e => !p e).map eR))))] := ⟨fun h => by obtain ⟨rfl, h0, h⟩ := h; exact (D.deleteFunc_o f caps hf p g l h (hp.call h0)).one c⟩
instance {f : FuncId} {caps : List PVal} {pre : Prop} {p : Ent → Bool} {ex : Bool} [hf : FnT Tryz.prog f] [hp : FP Tryz.prog f caps pre p] : PC Tryz.prog 105 [.p (.sl 4 (([] : List Ent).map eR) ex), .p (.fnv f caps)] pre (.p (.sl 4 (([] : List Ent).map eR) ex)) := ⟨fun h => D.deleteFunc_0 f caps hf p ex (hp.call h)⟩
instance {c k : Nat} {l : List Ent} {ex : Bool} : OC Tryz.prog 106 [.p (.sl 4 (l.map eR) ex)] [] [(c, k)] (0 < l.length ∧ l.length ≤ 1000000000) (.o (.osl c (k + 1) 4 0 (([] : List Ent) ++ l).length)) [(c, (k + 2, some (.buf 119 4 ((([] : List Ent) ++ l).map eR))))] := ⟨fun h => (D2.clone_o l ex h.1 h.2).fresh1 c k⟩
instance {ex : Bool} : PC Tryz.prog 106 [.p (.sl 4 (([] : List Ent).map eR) ex)] True (.p (.sl 4 (([] : List Ent).map eR) false)) := ⟨fun _ => D2.clone_0 ex⟩
end Go.Proofs.YtebjmleheiefdaaGreat.Ca
