/- buckets: a list of keyed carts without some of them, in place -/
import Derived.Test.YtclcfjejpogdlaaGreatCS30
namespace Go.Proofs.YtclcfjejpogdlaaGreat.Wi
open Go Go.RowKit Go.Aw Go.Aw.Cart Go.Proofs.YtclcfjejpogdlaaGreat.Ca
set_option linter.unusedVariables false
set_option linter.unusedSimpArgs false
set_option maxRecDepth 8000
set_option maxHeartbeats 4000000
/-- an element of an own list -/
theorem lop_ld_bK {C : Ctx} {o : Oper} {σ : St} {l : List Kd} {T : TypeId} {x : Operand} {k : TK} {sz by_ : Nat} {ob g n ty i : Nat} (ho : o.op = .load T x) (hT : TI C.P T k sz by_) (hx : σ.look x = .o (.ptr ob g (i * sz))) (hm : σ.mem ob = (n, some (.buf ty sz (l.map kR)))) (hn : n = g + 1)
    (hk : k.agg = true) (hi : i < l.length) (hd : dOk C o.dst = true) : LOp C o σ ⟨.a (kL (l.getD i default)), []⟩ (fun y => y == ob) :=
  lop_ld_bk ho hT hx hm inferInstance hn hk hi rfl hd
/-- an element into an own list -/
theorem lop_st_bK {C : Ctx} {o : Oper} {σ : St} {l : List Kd} {v : Kd} {T : TypeId} {x y : Operand} {k : TK} {sz by_ : Nat} {ob g n ty i : Nat} (ho : o.op = .store T x y) (hT : TI C.P T k sz by_) (hdst : o.dst = none) (hx : σ.look x = .o (.ptr ob g (i * sz))) (hy : σ.look y = .a (kL v))
    (hm : σ.mem ob = (n, some (.buf ty sz (l.map kR)))) (hs : 10 = sz) (hn : n = g + 1) (hi : i < l.length) : LOp C o σ ⟨.un, [(ob, (n, some (.buf ty sz ((l.set i v).map kR))))]⟩ (fun z => z == ob) := by
  have := lop_store_row (C := C) (o := o) (s := .agg (kL v)) (row := kR v) ho hdst hx hy rfl hs hm hn (by simpa using hi)
  rwa [← List.map_set] at this
namespace B1
theorem lopC {C : Ctx} {o : Oper} {σ : St} {e : Eff} {ro : Nat → Bool} (h : LOp C o σ e ro := by
    first | (apply gLoad; (focus rfl); apply lop_ld_bK; (focus rfl); (focus exact inferInstance); (focus rfl); (focus rfl); (focus rfl); (focus rfl); (focus omega); (focus rfl)) | (apply lop_lend2; (focus rfl); (focus exact inferInstance); (focus rfl); (focus rfl); (focus rfl); (focus exact (List.length_map ..).symm); (focus first | exact lk_m1 rfl | exact lk_m2 rfl | exact lk_m3 rfl | exact lk_o rfl | exact lk_a2 rfl | exact lk_a3 rfl | exact lk_a4 rfl | exact lk_a1 rfl | exact lk_a5 rfl | exact lk_a6 rfl | exact lk_a7 rfl | exact lk_a8 rfl | exact lk_a rfl); (focus exact inferInstance); (focus exact inferInstance); (focus first | exact True.intro | assumption | rfl | omega | ((repeat' (first | assumption | refine And.intro ?_ ?_ | omega | rfl)); done) | fail); (focus exact RV.v); (focus rfl)) | exact WC.lopC | exact lopQ | fail) : LOp C o σ e ro := h
section steps
variable {C : Ctx} {ops : Array Oper} {o : Oper} {rest : List Oper} {K : St → Prop} {σ : St} {e : Eff} {ro : Nat → Bool} {W : List (Nat × Nat)} {i : Nat}
theorem rnC {d : Nat} (hk : RunN C ops rest K (e.app (some d) σ)) (hg : Guard ops σ o true := by first | exact gd_n rfl rfl | exact gd_t rfl rfl rfl rfl | exact gd_t rfl rfl rfl (by assumption)) (hd : o.dst = some d := by rfl) (h : LOp C o σ e ro := by exact lopC) : RunN C ops (o :: rest) K σ := rn_any hg hd h hk
theorem rkC {d : Nat} (hk : RunK C ops W (i + 1) rest K (e.app (some d) σ)) (hg : Guard ops σ o true := by first | exact gd_n rfl rfl | exact gd_t rfl rfl rfl rfl | exact gd_t rfl rfl rfl (by assumption)) (hd' : o.dst = some d := by rfl) (hd : dOk C o.dst = true := by rfl) (h : LOp C o σ e ro := by exact lopC)
    (hro : ∀ x, ro x = true → okObj ops W i x = true := by first | exact fun _ => ro_none | exact ro_one rfl | exact ro_k1 rfl | exact ro_one (by kernel_rfl) | exact ro_k1 (by kernel_rfl) | exact ro_kIn (by decide)) (hob : ∀ p ∈ e.obj, (i, p.1) ∈ W := by first | exact ob_none | exact ob_one (by decide) | decide) : RunK C ops W i (o :: rest) K σ := rk_wr hg hd' hd h hro hob hk
end steps
end B1
open B1
theorem filterK_take {p : Kd → Bool} {l : List Kd} {k : Nat} (hk : k ≤ l.length) (h : ∀ i : Nat, i < k → p (l.getD i default) = false) : (l.take k).filter (fun e => !p e) = l.take k := by
  rw [List.filter_eq_self]
  intro a ha
  obtain ⟨i, hi, rfl⟩ := List.mem_iff_getElem.1 ha
  rw [List.length_take] at hi
  have := h i (by omega : i < k)
  rw [List.getD_eq_getElem?_getD, List.getElem?_eq_getElem (by omega)] at this
  rw [List.getElem_take]
  simpa using this
theorem takeK_get {l : List Kd} {k : Nat} (h : k < l.length) : l.take (k + 1) = l.take k ++ [l.getD k default] := by
  rw [List.take_succ_eq_append_getElem h, List.getD_eq_getElem?_getD, List.getElem?_eq_getElem h]; rfl
theorem deleteFuncK_o (f : FuncId) (caps : List PVal) (hf : FnT Tryz.prog f) (p : Kd → Bool) (n : Nat) (l : List Kd) (h : l.length ≤ 1000000000) (hp : ∀ e ∈ l, PCall Tryz.prog f ([kV e] ++ caps.map .p) (.p (.b (p e)))) : OCall Tryz.prog 174 [.o (.osl 1000 n 10 0 l.length), .p (.fnv f caps)] (memL [(1000, (n + 1, some (.buf 148 10 (l.map kR))))]) (.o (.osl 1000 n 10 0 (l.filter fun e => !p e).length)) (memL [(1000, (n + 1, some (.buf 148 10 ((l.filter fun e => !p e).map kR))))]) := by
  refine ocall_of1 Tryz.func174 rfl (fun w0 F S0 M0 => ?_)
  obtain ⟨L, hL⟩ : ∃ L, L = (l.filter fun e => !p e).length := ⟨_, rfl⟩
  obtain ⟨A, hA⟩ : ∃ A, A = l.filter fun e => !p e := ⟨_, rfl⟩
  rw [← hL, ← hA]
  have cI := indexFuncK_w f caps hf p l false h hp
  have hmem : ∀ j, j < l.length → l.getD j default ∈ l := fun j hj => by rw [getD_at hj]; exact List.getElem_mem hj
  rcases idxK_found (p := p) (l := l) l.length 0 (by omega) with ⟨hi, hno⟩ | ⟨i0, hi, -, hil, hpi, hno⟩
  · rw [hi] at cI
    haveI : PC Tryz.prog 226 [.p (.sl 10 (l.map kR) false), .p (.fnv f caps)] True (.p (.i (-1))) := ⟨fun _ => cI⟩
    have e := filterK_take (Nat.le_refl _) (fun i hi => hno i (Nat.zero_le _) hi)
    rw [List.take_length] at e
    rw [e] at hL hA
    subst hL hA
    as_aux_lemma =>
      repeat' (first | refine rnC ?_ | refine rnSQ ?_ | refine rnG ?_ | refine rnU ?_ | ((fail_if_success (refine rnKn ?_)); refine rnP ?_ ?_ <;> (intro hq; try (have hq' := hq; simp only [hqs] at hq'))) | refine rkC ?_ | refine rkSQ ?_ | refine rkF ?_ | refine rkU ?_ | ((fail_if_success (refine rkKn ?_)); refine rkP ?_ ?_ <;> (intro hq; try (have hq' := hq; simp only [hqs] at hq'))) | refine stp ?_ | refine ifT ?_ | refine ifF ?_ | (refine ifQ ?_ ?_ <;> (try (intro hn))) | (refine ifB ?_ ?_ <;> (intro hq; try (have hq' := hq; simp only [hqs] at hq'))))
      exact RetO.mk (ot1 rfl rfl (.one (.kosl rfl)) rfl) ⟨.buf, trivial⟩
  · rw [hi] at cI
    haveI : PC Tryz.prog 226 [.p (.sl 10 (l.map kR) false), .p (.fnv f caps)] True (.p (.i i0)) := ⟨fun _ => cI⟩
    have e0 : (l.take (i0 + 1)).filter (fun e => !p e) = l.take i0 := by
      rw [takeK_get hil, List.filter_append, filterK_take (by omega) (fun i hi => hno i (Nat.zero_le _) hi)]
      rw [List.filter_cons_of_neg (by rw [hpi]; simp), List.filter_nil, List.append_nil]
    have d2 : decide ((i0 : Int) = -1) = false := decide_eq_false (by omega)
    repeat' (first | refine rnC ?_ | refine rnSQ ?_ | refine rnG ?_ | refine rnU ?_ | ((fail_if_success (refine rnKn ?_)); refine rnP ?_ ?_ <;> (intro hq; try (have hq' := hq; simp only [hqs] at hq'))) | refine rkC ?_ | refine rkSQ ?_ | refine rkF ?_ | refine rkU ?_ | ((fail_if_success (refine rkKn ?_)); refine rkP ?_ ?_ <;> (intro hq; try (have hq' := hq; simp only [hqs] at hq'))) | refine stp ?_ | refine ifT ?_ | refine ifF ?_ | (refine ifQ ?_ ?_ <;> (try (intro hn))) | (refine ifB ?_ ?_ <;> (intro hq; try (have hq' := hq; simp only [hqs] at hq'))))
    refine aws_loopS [5, 6, 7, 16, 17, 18, 19, 20, 21, 22, 23, 24, 25, 26, 27, 28, 29, 30, 31, 32, 33, 34, 35] [1000, 7] (fun (x : Nat × Nat × List Kd × Option MO) => [(6, .p (.i (i0 + 1 + x.1 : Nat))), (5, .p (.i x.2.1))]) (fun x => [(1000, (n + 1, some (.buf 148 10 (x.2.2.1.map kR)))), (7, (x.1, x.2.2.2))])
      (fun x => i0 + 1 + x.1 ≤ l.length ∧ x.2.1 < i0 + 1 + x.1 ∧ x.2.2.1.length = l.length ∧ x.2.2.1.take x.2.1 = (l.take (i0 + 1 + x.1)).filter (fun e => !p e) ∧ ∀ i, i0 + 1 + x.1 ≤ i → x.2.2.1.getD i default = l.getD i default)
      (fun x => l.length - x.1) (0, i0, l, none) ⟨by dsimp only; omega, by dsimp only; omega, rfl, e0.symm, fun i _ => rfl⟩ (by exact knA) (by exact knA) ?_
    rintro ⟨j, q, m, c7⟩ β γ ⟨hjl, hqj, hml, hmc, hmr⟩
    simp only at hjl hqj hml hmc hmr
    dsimp only
    by_cases hjn : i0 + 1 + j < l.length
    · have hd2 : decide (((i0 + 1 + j : Nat) : Int) < (l.length : Int)) = true := decide_eq_true (by omega)
      have hm0 : m.getD ((i0 + 1 + j : Nat) : Int).toNat default = l.getD (i0 + 1 + j) default := by rw [Int.toNat_natCast]; exact hmr _ (by omega)
      have hct : (l.take (i0 + 1 + (j + 1))).filter (fun e => !p e) = (l.take (i0 + 1 + j)).filter (fun e => !p e) ++ (if p (l.getD (i0 + 1 + j) default) = true then [] else [l.getD (i0 + 1 + j) default]) := by
        rw [← Nat.add_assoc, takeK_get hjn, List.filter_append]
        congr 1
        by_cases hx : p (l.getD (i0 + 1 + j) default) = true
        · rw [if_pos hx, List.filter_cons_of_neg (by rw [hx]; simp), List.filter_nil]
        · rw [if_neg hx, List.filter_cons_of_pos (by rw [Bool.eq_false_iff.2 hx]; rfl), List.filter_nil]
      have hpe : PCall Tryz.prog f ([kV (m.getD ((i0 + 1 + j : Nat) : Int).toNat default)] ++ caps.map .p) (.p (.b (p (m.getD ((i0 + 1 + j : Nat) : Int).toNat default)))) := by
        rw [hm0]; exact hp _ (hmem _ hjn)
      haveI : PC Tryz.prog f ([kV (m.getD ((i0 + 1 + j : Nat) : Int).toNat default)] ++ caps.map .p) True (.p (.b (p (m.getD ((i0 + 1 + j : Nat) : Int).toNat default)))) := ⟨fun _ => hpe⟩
      cases hv : p (m.getD ((i0 + 1 + j : Nat) : Int).toNat default) with
      | true =>
        have hv1 : (!p (m.getD ((i0 + 1 + j : Nat) : Int).toNat default)) = false := by rw [hv]; rfl
        rw [hm0] at hv
        rw [if_pos hv, List.append_nil] at hct
        as_aux_lemma =>
          repeat' (first | refine rnC ?_ | refine rnSQ ?_ | refine rnG ?_ | refine rnU ?_ | ((fail_if_success (refine rnKn ?_)); refine rnP ?_ ?_ <;> (intro hq; try (have hq' := hq; simp only [hqs] at hq'))) | refine rkC ?_ | refine rkSQ ?_ | refine rkF ?_ | refine rkU ?_ | ((fail_if_success (refine rkKn ?_)); refine rkP ?_ ?_ <;> (intro hq; try (have hq' := hq; simp only [hqs] at hq'))) | refine stp ?_ | refine ifT ?_ | refine ifF ?_ | (refine ifQ ?_ ?_ <;> (try (intro hn))) | (refine ifB ?_ ?_ <;> (intro hq; try (have hq' := hq; simp only [hqs] at hq'))))
          exact ⟨(j + 1, q, m, some (.box 148 (kL (m.getD ((i0 + 1 + j : Nat) : Int).toNat default)))), _, by dsimp only; omega, ⟨by dsimp only; omega, by dsimp only; omega, hml, by dsimp only; rw [hmc, hct], fun i hi => hmr i (by dsimp only at hi; omega)⟩, .refl, by exact frA⟩
      | false =>
        have hv1 : (!p (m.getD ((i0 + 1 + j : Nat) : Int).toNat default)) = true := by rw [hv]; rfl
        rw [hm0] at hv
        rw [if_neg (by rw [hv]; simp)] at hct
        repeat' (first | refine rnC ?_ | refine rnSQ ?_ | refine rnG ?_ | refine rnU ?_ | ((fail_if_success (refine rnKn ?_)); refine rnP ?_ ?_ <;> (intro hq; try (have hq' := hq; simp only [hqs] at hq'))) | refine rkC ?_ | refine rkSQ ?_ | refine rkF ?_ | refine rkU ?_ | ((fail_if_success (refine rkKn ?_)); refine rkP ?_ ?_ <;> (intro hq; try (have hq' := hq; simp only [hqs] at hq'))) | refine stp ?_ | refine ifT ?_ | refine ifF ?_ | (refine ifQ ?_ ?_ <;> (try (intro hn))) | (refine ifB ?_ ?_ <;> (intro hq; try (have hq' := hq; simp only [hqs] at hq'))))
        refine rn_sto (gd_n rfl rfl) rfl (lop_st_bK rfl inferInstance rfl rfl rfl rfl rfl rfl (by omega)) ?_
        as_aux_lemma =>
          repeat' (first | refine rnC ?_ | refine rnSQ ?_ | refine rnG ?_ | refine rnU ?_ | ((fail_if_success (refine rnKn ?_)); refine rnP ?_ ?_ <;> (intro hq; try (have hq' := hq; simp only [hqs] at hq'))) | refine rkC ?_ | refine rkSQ ?_ | refine rkF ?_ | refine rkU ?_ | ((fail_if_success (refine rkKn ?_)); refine rkP ?_ ?_ <;> (intro hq; try (have hq' := hq; simp only [hqs] at hq'))) | refine stp ?_ | refine ifT ?_ | refine ifF ?_ | (refine ifQ ?_ ?_ <;> (try (intro hn))) | (refine ifB ?_ ?_ <;> (intro hq; try (have hq' := hq; simp only [hqs] at hq'))))
          refine ⟨(j + 1, q + 1, m.set (q : Int).toNat (m.getD ((i0 + 1 + j : Nat) : Int).toNat default), some (.box 148 (kL (m.getD ((i0 + 1 + j : Nat) : Int).toNat default)))), _, by dsimp only; omega, ⟨by dsimp only; omega, by dsimp only; omega, by dsimp only; rw [List.length_set]; exact hml, ?_, fun i hi => ?_⟩, .refl, by exact frA⟩
          · dsimp only
            rw [hm0, hct, ← hmc, Int.toNat_natCast, List.take_succ_eq_append_getElem (by rw [List.length_set]; omega), List.getElem_set_self, List.take_set_of_le (Nat.le_refl _)]
          · dsimp only at hi ⊢
            rw [List.getD_eq_getElem?_getD, List.getElem?_set_ne (by rw [Int.toNat_natCast]; omega), ← List.getD_eq_getElem?_getD]
            exact hmr i (by omega)
    · have hd2 : decide (((i0 + 1 + j : Nat) : Int) < (l.length : Int)) = false := decide_eq_false (by omega)
      have e1 : l.take (i0 + 1 + j) = l := List.take_of_length_le (by omega)
      rw [e1] at hmc
      have hA' : A = m.take (q : Int).toNat := by rw [hA, ← hmc, Int.toNat_natCast]
      have hL' : L = (q : Int).toNat := by rw [hL, ← hmc, List.length_take, Int.toNat_natCast]; omega
      rw [hA', hL']
      as_aux_lemma =>
        repeat' (first | refine rnC ?_ | refine rnSQ ?_ | refine rnG ?_ | refine rnU ?_ | ((fail_if_success (refine rnKn ?_)); refine rnP ?_ ?_ <;> (intro hq; try (have hq' := hq; simp only [hqs] at hq'))) | refine rkC ?_ | refine rkSQ ?_ | refine rkF ?_ | refine rkU ?_ | ((fail_if_success (refine rkKn ?_)); refine rkP ?_ ?_ <;> (intro hq; try (have hq' := hq; simp only [hqs] at hq'))) | refine stp ?_ | refine ifT ?_ | refine ifF ?_ | (refine ifQ ?_ ?_ <;> (try (intro hn))) | (refine ifB ?_ ?_ <;> (intro hq; try (have hq' := hq; simp only [hqs] at hq'))))
        exact RetO.mk (ot1 rfl rfl (.one (.kosl rfl)) rfl) ⟨.buf, trivial⟩
end Go.Proofs.YtclcfjejpogdlaaGreat.Wi
