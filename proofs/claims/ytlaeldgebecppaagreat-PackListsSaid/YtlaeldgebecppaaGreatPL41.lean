/- packs: a list with another cart; packs in plain Lean: a list there and back; what the fixed calls of chapter 10 come to -/
import Derived.Test.YtlaeldgebecppaaGreatPL38
import Derived.Test.YtlaeldgebecppaaGreatPL39
import Derived.Test.YtlaeldgebecppaaGreatPL40
import Derived.Test.YtlaeldgebecppaaGreatPL24
namespace Go.Proofs.YtlaeldgebecppaaGreat.Wi
open Go Go.RowKit Go.Aw Go.Aw.Cart Go.Proofs.YtlaeldgebecppaaGreat.Ca
set_option linter.unusedVariables false
set_option linter.unusedSimpArgs false
set_option maxRecDepth 8000
set_option maxHeartbeats 4000000
/-- another cart in an own slice's element -/
theorem lop_st_kd {C : Ctx} {o : Oper} {σ : St} {T : TypeId} {x y : Operand} {k : TK} {sz by_ : Nat} {ob g n ty i : Nat} {l : List Kd} {c : Crt} (ho : o.op = .store T x y) (hT : TI C.P T k sz by_) (hdst : o.dst = none) (hx : σ.look x = .o (.ptr ob g (i * 10 + 1))) (hy : σ.look y = .a (cL c.1 c.2 false)) (hm : σ.mem ob = (n, some (.buf ty 10 (l.map kR)))) (hs : sz = 9) (hn : n = g + 1) (hi : i < l.length) :
    LOp C o σ ⟨.un, [(ob, (n, some (.buf ty 10 ((l.set i ((l.getD i default).1, c)).map kR))))]⟩ (fun z => z == ob) := by
  have hg : (l.map kR)[i]? = some (kR (l.getD i default)) := by rw [List.getElem?_map, List.getElem?_eq_getElem hi, getD_at hi]; rfl
  have := lop_store_rowp (C := C) (o := o) (d := 1) (part := (kR ((l.getD i default).1, c)).drop 1) ho hdst hx hy rfl (by rw [hs]; rfl) hm hn hg (by omega)
  rw [hs] at this
  have e : (kR (l.getD i default)).take 1 ++ (kR ((l.getD i default).1, c)).drop 1 ++ (kR (l.getD i default)).drop (1 + 9) = kR ((l.getD i default).1, c) := rfl
  rwa [e, ← List.map_set] at this
theorem setK_len (l : List Kd) (k : List Nat) (c : Crt) : (setK l k c).length = l.length := List.length_map _
theorem setK_id {l : List Kd} {k : List Nat} {c : Crt} (h : hasK l k = false) : setK l k c = l := by
  have hno : ∀ e ∈ l, e.1 ≠ k := fun e he q => by
    have := hasK_iff.2 ⟨e, he, q⟩
    rw [h] at this; cases this
  unfold setK
  conv => rhs; rw [← List.map_id l]
  exact List.map_congr_left fun e he => by rw [if_neg (hno e he)]; rfl
theorem hasK_step {l : List Kd} {k : List Nat} {i : Nat} (h : i < l.length) : hasK (l.take (i + 1)) k = (hasK (l.take i) k || decide ((l.getD i default).1 = k)) := by
  unfold hasK
  rw [List.take_succ_eq_append_getElem h, List.any_append, getD_at h]; simp
theorem cur_at {l : List Kd} {k : List Nat} {c : Crt} {i : Nat} (h : i < l.length) : (setK (l.take i) k c ++ l.drop i).getD i default = l.getD i default := by
  have hl : (setK (l.take i) k c).length = i := by rw [setK_len, List.length_take]; omega
  rw [List.getD_eq_getElem?_getD, List.getElem?_append_right (by omega), hl, Nat.sub_self, List.getElem?_drop, Nat.add_zero, ← List.getD_eq_getElem?_getD]
theorem cur_len (l : List Kd) (k : List Nat) (c : Crt) {i : Nat} (h : i ≤ l.length) : (setK (l.take i) k c ++ l.drop i).length = l.length := by
  rw [List.length_append, setK_len, List.length_take, List.length_drop]; omega
theorem cur_step {l : List Kd} {k : List Nat} {c : Crt} {i : Nat} (h : i < l.length) : setK (l.take (i + 1)) k c ++ l.drop (i + 1) = if (l.getD i default).1 = k then (setK (l.take i) k c ++ l.drop i).set i ((l.getD i default).1, c) else setK (l.take i) k c ++ l.drop i := by
  have hl : (setK (l.take i) k c).length = i := by rw [setK_len, List.length_take]; omega
  have e1 : setK (l.take (i + 1)) k c = setK (l.take i) k c ++ [if (l.getD i default).1 = k then ((l.getD i default).1, c) else l.getD i default] := by
    unfold setK
    rw [List.take_succ_eq_append_getElem h, List.map_append, getD_at h]; rfl
  have e2 : l.drop i = l.getD i default :: l.drop (i + 1) := by rw [List.drop_eq_getElem_cons h, getD_at h]
  rw [e1]
  split
  · rw [e2, List.set_append_right _ _ (by omega), hl, Nat.sub_self, List.set_cons_zero, List.append_assoc]; rfl
  · conv => rhs; rw [e2]
    rw [List.append_assoc]; rfl
theorem gt_is {k : List Nat} : ∀ {l : List Kd} {i : Nat}, i < l.length → bLt k (l.getD i default).1 = true → (∀ j, j < i → bLt k (l.getD j default).1 = false) → gtI l k = i
  | [], i, h, _, _ => absurd h (Nat.not_lt_zero _)
  | e :: l, 0, h, hk, _ => by
    have hk' : bLt k e.1 = true := hk
    rw [gtI, if_pos hk']
  | e :: l, i + 1, h, hk, hno => by
    have h0 : bLt k e.1 = false := hno 0 (by omega)
    rw [gtI, if_neg (by rw [h0]; simp), gt_is (l := l) (i := i) (by simpa using h) hk fun j hj => hno (j + 1) (by omega)]
theorem gt_none {k : List Nat} : ∀ {l : List Kd}, (∀ j, j < l.length → bLt k (l.getD j default).1 = false) → gtI l k = l.length
  | [], _ => rfl
  | e :: l, hno => by
    have h0 : bLt k e.1 = false := hno 0 (by simp)
    rw [gtI, if_neg (by rw [h0]; simp), gt_none (l := l) fun j hj => hno (j + 1) (by simpa using hj)]; rfl
namespace WE
theorem lopC {C : Ctx} {o : Oper} {σ : St} {e : Eff} {ro : Nat → Bool} (h : LOp C o σ e ro := by
    first | (apply lop_lend2; (focus rfl); (focus exact inferInstance); (focus rfl); (focus rfl); (focus rfl); (focus exact (List.length_map ..).symm); (focus first | exact lk_m1 rfl | exact lk_m2 rfl | exact lk_m3 rfl | exact lk_o rfl | exact lk_a2 rfl | exact lk_a3 rfl | exact lk_a4 rfl | exact lk_a1 rfl | exact lk_a5 rfl | exact lk_a6 rfl | exact lk_a7 rfl | exact lk_a8 rfl | exact lk_a rfl); (focus exact inferInstance); (focus exact inferInstance); (focus first | exact True.intro | assumption | rfl | omega | ((repeat' (first | assumption | refine And.intro ?_ ?_ | omega | rfl)); done) | fail); (focus exact RV.v); (focus rfl)) | exact WD.lopC | fail) : LOp C o σ e ro := h
section steps
variable {C : Ctx} {ops : Array Oper} {o : Oper} {rest : List Oper} {K : St → Prop} {σ : St} {e : Eff} {ro : Nat → Bool} {W : List (Nat × Nat)} {i : Nat}
theorem rnC {d : Nat} (hk : RunN C ops rest K (e.app (some d) σ)) (hg : Guard ops σ o true := by first | exact gd_n rfl rfl | exact gd_t rfl rfl rfl rfl | exact gd_t rfl rfl rfl (by assumption)) (hd : o.dst = some d := by rfl) (h : LOp C o σ e ro := by exact lopC) : RunN C ops (o :: rest) K σ := rn_any hg hd h hk
theorem rkC {d : Nat} (hk : RunK C ops W (i + 1) rest K (e.app (some d) σ)) (hg : Guard ops σ o true := by first | exact gd_n rfl rfl | exact gd_t rfl rfl rfl rfl | exact gd_t rfl rfl rfl (by assumption)) (hd' : o.dst = some d := by rfl) (hd : dOk C o.dst = true := by rfl) (h : LOp C o σ e ro := by exact lopC)
    (hro : ∀ x, ro x = true → okObj ops W i x = true := by first | exact fun _ => ro_none | exact ro_one rfl | exact ro_k1 rfl | exact ro_one (by kernel_rfl) | exact ro_k1 (by kernel_rfl) | exact ro_kIn (by decide)) (hob : ∀ p ∈ e.obj, (i, p.1) ∈ W := by first | exact ob_none | exact ob_one (by decide) | decide) : RunK C ops W i (o :: rest) K σ := rk_wr hg hd' hd h hro hob hk
end steps
end WE
open WE
theorem cloneE_w (l : List Ent) (ex : Bool) (h : l.length ≤ 1000000) : PCall Tryz.prog 147 [.p (.sl 4 (l.map eR) ex)] (.p (.sl 4 (l.map eR) false)) := by
  refine pcall_of Tryz.func147 rfl (fun w0 F S0 M0 => ?_)
  as_aux_lemma =>
    repeat' (first | refine rnC ?_ | refine rnSB ?_ | refine rnG ?_ | refine rnU ?_ | ((fail_if_success (refine rnKn ?_)); refine rnP ?_ ?_ <;> (intro hq; try (have hq' := hq; simp only [hqs] at hq'))) | refine rkC ?_ | refine rkSB ?_ | refine rkF ?_ | refine rkU ?_ | ((fail_if_success (refine rkKn ?_)); refine rkP ?_ ?_ <;> (intro hq; try (have hq' := hq; simp only [hqs] at hq'))) | refine stp ?_ | refine ifT ?_ | refine ifF ?_ | (refine ifQ ?_ ?_ <;> (try (intro hn))) | (refine ifB ?_ ?_ <;> (intro hq; try (have hq' := hq; simp only [hqs] at hq'))))
    · have e : l = [] := List.eq_nil_of_length_eq_zero (by have := congrArg List.length hn; rwa [List.length_map, List.length_nil] at this)
      subst e
      exact rt1 rfl rfl (.one .nil) rfl
    · exact rt1 rfl rfl finS_p rfl
theorem with_w (l : List Kd) (ex : Bool) (x : Kd) (ex2 : Bool) (hl : l.length ≤ 100000) (hin : ∀ k ∈ l, okB k.1) (hk : okB x.1) (hc : x.2.2.length ≤ 1000000) : PCall Tryz.prog 77 [.p (.sl 10 (l.map kR) ex), .p (.v (.string (strOf x.1))), cV x.2.1 x.2.2 ex2] (.p (.sl 10 ((withK l x.1 x.2).map kR) false)) := by
  refine pcall_of Tryz.func77 rfl (fun w0 F S0 M0 => ?_)
  haveI : PC Tryz.prog 147 [.p (.sl 4 (x.2.2.map eR) ex2)] True (.p (.sl 4 (x.2.2.map eR) false)) := ⟨fun _ => cloneE_w _ _ hc⟩
  obtain ⟨A, hA⟩ : ∃ A, A = idxK (fun e => bLt x.1 e.1) l 0 l.length := ⟨_, rfl⟩
  haveI : PC Tryz.prog 148 [.p (.sl 10 (l.map kR) false), .p (.fnv 149 [.bx [.v (.string (strOf x.1))] 0])] True (.p (.i A)) := ⟨fun _ => by rw [hA]; exact indexFuncK_w _ _ inferInstance (fun e => bLt x.1 e.1) l false (by omega) fun e he => with1_w e x.1 (hin e he) hk⟩
  repeat' (first | refine rnC ?_ | refine rnSB ?_ | refine rnG ?_ | refine rnU ?_ | ((fail_if_success (refine rnKn ?_)); refine rnP ?_ ?_ <;> (intro hq; try (have hq' := hq; simp only [hqs] at hq'))) | refine rkC ?_ | refine rkSB ?_ | refine rkF ?_ | refine rkU ?_ | ((fail_if_success (refine rkKn ?_)); refine rkP ?_ ?_ <;> (intro hq; try (have hq' := hq; simp only [hqs] at hq'))) | refine stp ?_ | refine ifT ?_ | refine ifF ?_ | (refine ifQ ?_ ?_ <;> (try (intro hn))) | (refine ifB ?_ ?_ <;> (intro hq; try (have hq' := hq; simp only [hqs] at hq'))))
  refine aws_loopS [8, 9, 19, 20, 21, 22, 23, 24, 25, 26, 27, 28, 29, 30, 31, 32, 33, 34] [16] (fun (y : Nat × List Kd × Bool) => [(19, .p (.i y.1)), (8, .p (.b y.2.2))]) (fun y => [(16, (2, some (.buf 105 10 (y.2.1.map kR))))]) (fun y => y.1 ≤ l.length ∧ y.2.1 = setK (l.take y.1) x.1 x.2 ++ l.drop y.1 ∧ y.2.2 = hasK (l.take y.1) x.1) (fun y => l.length - y.1) (0, l, false) ⟨Nat.zero_le _, rfl, rfl⟩ (by exact knA) (by exact knA) ?_
  rintro ⟨i, cur, b⟩ β γ ⟨hi, hcur, hb⟩
  dsimp only at hi hcur hb ⊢
  have hcl : cur.length = l.length := by rw [hcur]; exact cur_len l x.1 x.2 hi
  by_cases hil : i < l.length
  · have d1 : decide ((i : Int) < (l.length : Int)) = true := decide_eq_true (by omega)
    have ei : (i : Int).toNat = i := Int.toNat_natCast i
    have hg : cur.getD (i : Int).toNat default = l.getD i default := by rw [ei, hcur]; exact cur_at hil
    have okc : okB (cur.getD (i : Int).toNat default).1 := by rw [hg, getD_at hil]; exact hin _ (List.getElem_mem _)
    have hst := cur_step (k := x.1) (c := x.2) hil
    have hbs := hasK_step (k := x.1) hil
    rw [← hcur] at hst
    rw [← hb] at hbs
    rw [← hg] at hst hbs
    by_cases he : (cur.getD (i : Int).toNat default).1 = x.1
    · have d2 : decide ((cur.getD (i : Int).toNat default).1 = x.1) = true := decide_eq_true he
      rw [if_pos he] at hst
      rw [d2, Bool.or_true] at hbs
      repeat' (first | refine rnC ?_ | refine rnSB ?_ | refine rnG ?_ | refine rnU ?_ | ((fail_if_success (refine rnKn ?_)); refine rnP ?_ ?_ <;> (intro hq; try (have hq' := hq; simp only [hqs] at hq'))) | refine rkC ?_ | refine rkSB ?_ | refine rkF ?_ | refine rkU ?_ | ((fail_if_success (refine rkKn ?_)); refine rkP ?_ ?_ <;> (intro hq; try (have hq' := hq; simp only [hqs] at hq'))) | refine stp ?_ | refine aws_draws [] mixed (by kernel_rfl) ?_ | refine ifT ?_ | refine ifF ?_ | (refine ifQ ?_ ?_ <;> (try (intro hn))) | (refine ifB ?_ ?_ <;> (intro hq; try (have hq' := hq; simp only [hqs] at hq'))))
      refine rn_sto (gd_n rfl rfl) rfl (lop_st_kd (ob := 16) (i := (i : Int).toNat) (c := x.2) rfl inferInstance rfl rfl rfl rfl rfl rfl (by omega)) ?_
      as_aux_lemma =>
        repeat' (first | refine rnC ?_ | refine rnSB ?_ | refine rnG ?_ | refine rnU ?_ | ((fail_if_success (refine rnKn ?_)); refine rnP ?_ ?_ <;> (intro hq; try (have hq' := hq; simp only [hqs] at hq'))) | refine rkC ?_ | refine rkSB ?_ | refine rkF ?_ | refine rkU ?_ | ((fail_if_success (refine rkKn ?_)); refine rkP ?_ ?_ <;> (intro hq; try (have hq' := hq; simp only [hqs] at hq'))) | refine stp ?_ | refine ifT ?_ | refine ifF ?_ | (refine ifQ ?_ ?_ <;> (try (intro hn))) | (refine ifB ?_ ?_ <;> (intro hq; try (have hq' := hq; simp only [hqs] at hq'))))
        exact ⟨(i + 1, cur.set (i : Int).toNat ((cur.getD (i : Int).toNat default).1, x.2), true), _, by dsimp only; omega, ⟨by dsimp only; omega, by dsimp only; rw [hst, ei], hbs.symm⟩, .refl, by exact frA⟩
    · have d2 : decide ((cur.getD (i : Int).toNat default).1 = x.1) = false := decide_eq_false he
      rw [if_neg he] at hst
      rw [d2, Bool.or_false] at hbs
      as_aux_lemma =>
        repeat' (first | refine rnC ?_ | refine rnSB ?_ | refine rnG ?_ | refine rnU ?_ | ((fail_if_success (refine rnKn ?_)); refine rnP ?_ ?_ <;> (intro hq; try (have hq' := hq; simp only [hqs] at hq'))) | refine rkC ?_ | refine rkSB ?_ | refine rkF ?_ | refine rkU ?_ | ((fail_if_success (refine rkKn ?_)); refine rkP ?_ ?_ <;> (intro hq; try (have hq' := hq; simp only [hqs] at hq'))) | refine stp ?_ | refine aws_draws [] mixed (by kernel_rfl) ?_ | refine ifT ?_ | refine ifF ?_ | (refine ifQ ?_ ?_ <;> (try (intro hn))) | (refine ifB ?_ ?_ <;> (intro hq; try (have hq' := hq; simp only [hqs] at hq'))))
        exact ⟨(i + 1, cur, b), _, by dsimp only; omega, ⟨by dsimp only; omega, hst.symm, hbs.symm⟩, .refl, by exact frA⟩
  · have d1 : decide ((i : Int) < (l.length : Int)) = false := decide_eq_false (by omega)
    obtain rfl : i = l.length := by omega
    rw [List.take_length, List.drop_length, List.append_nil] at hcur
    rw [List.take_length] at hb
    unfold withK
    cases b with
    | true =>
      rw [if_pos hb.symm, ← hcur]
      clear hcur hA hin
      as_aux_lemma =>
        repeat' (first | refine rnC ?_ | refine rnSB ?_ | refine rnG ?_ | refine rnU ?_ | ((fail_if_success (refine rnKn ?_)); refine rnP ?_ ?_ <;> (intro hq; try (have hq' := hq; simp only [hqs] at hq'))) | refine rkC ?_ | refine rkSB ?_ | refine rkF ?_ | refine rkU ?_ | ((fail_if_success (refine rkKn ?_)); refine rkP ?_ ?_ <;> (intro hq; try (have hq' := hq; simp only [hqs] at hq'))) | refine stp ?_ | refine aws_draws [] mixed (by kernel_rfl) ?_ | refine ifT ?_ | refine ifF ?_ | (refine ifQ ?_ ?_ <;> (try (intro hn))) | (refine ifB ?_ ?_ <;> (intro hq; try (have hq' := hq; simp only [hqs] at hq'))))
        exact rt1 rfl rfl (.one (finC_map rfl rfl rfl (by omega))) rfl
    | false =>
      rw [if_neg (by rw [← hb]; simp)]
      rw [setK_id hb.symm] at hcur
      subst hcur
      have hin1 : ∀ j, j < cur.length → okB (cur.getD j default).1 := fun j hj => by rw [getD_at hj]; exact hin _ (List.getElem_mem _)
      have ins : ∀ i0 : Nat, i0 ≤ cur.length → OCAt Tryz.prog 150 [.o (.osl 16 1 10 0 cur.length), .p (.i (i0 : Int)), .o (.osl 49 0 10 0 1)] [(16, (2, some (.buf 105 10 (cur.map kR)))), (49, (1, some (.buf 105 10 [kR x])))] [] (.o (.osl 16 2 10 0 (cur.take i0 ++ x :: cur.drop i0).length)) [(16, (3, some (.buf 105 10 ((cur.take i0 ++ x :: cur.drop i0).map kR)))), (49, (1, some (.buf 105 10 [kR x])))] := fun i0 h0 => (insert_o 1 0 cur x i0 h0 (by omega)).two 16 49 (by decide)
      rcases idxK_found (p := fun e => bLt x.1 e.1) (l := cur) cur.length 0 (by omega) with ⟨h1, h2⟩ | ⟨i0, h1, -, h3, h4, h5⟩
      · rw [← hA] at h1
        rw [gt_none fun j hj => h2 j (Nat.zero_le _) hj]
        have hI := ins cur.length (Nat.le_refl _)
        have d2 : decide (A < 0) = true := decide_eq_true (by omega)
        clear hA h2 hin hin1 ins h1
        repeat' (first | refine rnC ?_ | refine rnSB ?_ | refine rnG ?_ | refine rnU ?_ | ((fail_if_success (refine rnKn ?_)); refine rnP ?_ ?_ <;> (intro hq; try (have hq' := hq; simp only [hqs] at hq'))) | refine rkC ?_ | refine rkSB ?_ | refine rkF ?_ | refine rkU ?_ | ((fail_if_success (refine rkKn ?_)); refine rkP ?_ ?_ <;> (intro hq; try (have hq' := hq; simp only [hqs] at hq'))) | refine stp ?_ | refine ifT ?_ | refine ifF ?_ | (refine ifQ ?_ ?_ <;> (try (intro hn))) | (refine ifB ?_ ?_ <;> (intro hq; try (have hq' := hq; simp only [hqs] at hq'))))
        refine rn_any (gd_n rfl rfl) rfl (lop_ocall rfl inferInstance (.cons rfl (.cons rfl (.cons rfl .nil))) hI (by intro p hp; simp only [List.mem_cons, List.not_mem_nil, or_false] at hp; rcases hp with rfl | rfl <;> rfl) (by intro p hp; cases hp) (by intro p hp; simp only [List.mem_cons, List.not_mem_nil, or_false] at hp; rcases hp with rfl | rfl <;> rfl) (by intro p hp; cases hp) rfl) ?_
        as_aux_lemma =>
          repeat' (first | refine rnC ?_ | refine rnSB ?_ | refine rnG ?_ | refine rnU ?_ | ((fail_if_success (refine rnKn ?_)); refine rnP ?_ ?_ <;> (intro hq; try (have hq' := hq; simp only [hqs] at hq'))) | refine rkC ?_ | refine rkSB ?_ | refine rkF ?_ | refine rkU ?_ | ((fail_if_success (refine rkKn ?_)); refine rkP ?_ ?_ <;> (intro hq; try (have hq' := hq; simp only [hqs] at hq'))) | refine stp ?_ | refine ifT ?_ | refine ifF ?_ | (refine ifQ ?_ ?_ <;> (try (intro hn))) | (refine ifB ?_ ?_ <;> (intro hq; try (have hq' := hq; simp only [hqs] at hq'))))
          exact rt1 rfl rfl (.one (finC_map rfl rfl rfl rfl)) rfl
      · rw [← hA] at h1
        rw [gt_is h3 h4 fun j hj => h5 j (Nat.zero_le _) hj]
        have hI := ins i0 (by omega)
        clear hA h4 h5 hin hin1 ins
        subst h1
        have d2 : decide ((i0 : Int) < 0) = false := decide_eq_false (by omega)
        repeat' (first | refine rnC ?_ | refine rnSB ?_ | refine rnG ?_ | refine rnU ?_ | ((fail_if_success (refine rnKn ?_)); refine rnP ?_ ?_ <;> (intro hq; try (have hq' := hq; simp only [hqs] at hq'))) | refine rkC ?_ | refine rkSB ?_ | refine rkF ?_ | refine rkU ?_ | ((fail_if_success (refine rkKn ?_)); refine rkP ?_ ?_ <;> (intro hq; try (have hq' := hq; simp only [hqs] at hq'))) | refine stp ?_ | refine ifT ?_ | refine ifF ?_ | (refine ifQ ?_ ?_ <;> (try (intro hn))) | (refine ifB ?_ ?_ <;> (intro hq; try (have hq' := hq; simp only [hqs] at hq'))))
        refine rn_any (gd_n rfl rfl) rfl (lop_ocall rfl inferInstance (.cons rfl (.cons rfl (.cons rfl .nil))) hI (by intro p hp; simp only [List.mem_cons, List.not_mem_nil, or_false] at hp; rcases hp with rfl | rfl <;> rfl) (by intro p hp; cases hp) (by intro p hp; simp only [List.mem_cons, List.not_mem_nil, or_false] at hp; rcases hp with rfl | rfl <;> rfl) (by intro p hp; cases hp) rfl) ?_
        as_aux_lemma =>
          repeat' (first | refine rnC ?_ | refine rnSB ?_ | refine rnG ?_ | refine rnU ?_ | ((fail_if_success (refine rnKn ?_)); refine rnP ?_ ?_ <;> (intro hq; try (have hq' := hq; simp only [hqs] at hq'))) | refine rkC ?_ | refine rkSB ?_ | refine rkF ?_ | refine rkU ?_ | ((fail_if_success (refine rkKn ?_)); refine rkP ?_ ?_ <;> (intro hq; try (have hq' := hq; simp only [hqs] at hq'))) | refine stp ?_ | refine ifT ?_ | refine ifF ?_ | (refine ifQ ?_ ?_ <;> (try (intro hn))) | (refine ifB ?_ ?_ <;> (intro hq; try (have hq' := hq; simp only [hqs] at hq'))))
          exact rt1 rfl rfl (.one (finC_map rfl rfl rfl rfl)) rfl
end Go.Proofs.YtlaeldgebecppaaGreat.Wi
namespace Go.Proofs.YtlaeldgebecppaaGreat.Wi
open Go Go.RowKit Go.Aw Go.Aw.Cart Go.Proofs.YtlaeldgebecppaaGreat.Ca
set_option linter.unusedVariables false
set_option linter.unusedSimpArgs false
theorem kd_back {k : Kd} (hl : k.1.length ≤ 20) (hr : rightF k.2.1 k.2.2 = true) (hv : vecOk k.2.1) (q : List Nat) : kdS (kdB k ++ q, 0) = (k, (q, 0)) := by
  unfold kdB
  rw [List.append_assoc]
  simp only [kdS, bindS, pureS, text_back (b := k.1) (most := 20) (by omega) (by decide), cart_back (c := k.2) hr hv]
theorem list_back {l : List Kd} (h : KOk l) (hv : ∀ k ∈ l, vecOk k.2.1) (q : List Nat) : listS (listB l ++ q, 0) = (l, (q, 0)) := by
  have hm := many_back (P := kdS) (enc := kdB) (L := l) (fun a ha q => kd_back (h.key a ha) (h.cart a ha) (hv a ha) q) q l.length (Nat.le_refl _)
  unfold listB
  rw [List.append_assoc]
  simp only [listS, bindS, small_back (x := l.length) (most := 2000) (by have := h.few; omega) (by decide), Int.toNat_natCast, hm, List.take_length, List.drop_length, List.flatMap_nil, List.nil_append]
theorem readL_back {l : List Kd} (h : KOk l) (hv : ∀ k ∈ l, vecOk k.2.1) : readL (listB l) = (l, 0) := by
  have := list_back h hv []
  rw [List.append_nil] at this
  unfold readL
  rw [this, if_neg]
  rintro (h1 | h1)
  · exact h1 rfl
  · rw [keys_iff.2 h] at h1; cases h1
/-- the carts of chapter 10's fixed calls -/
def c10 : Crt := ([1, 0, 0, 0, 0, 0, 0, 0], [(5, 1, 1, 2)])
theorem c10_right : rightF c10.1 c10.2 = true := rightF_iff.2 ⟨by decide, by decide, by decide⟩
theorem c10_no : rightF zeroV c10.2 = false := by
  cases h : rightF zeroV c10.2 with
  | false => rfl
  | true => exact absurd ((rightF_iff.1 h).2.1 0 (by decide)) (by decide)
theorem z10_right : rightF zeroV [] = true := rightF_iff.2 ⟨by decide, by decide, by decide⟩
theorem c10_vec : vecOk c10.1 := ⟨rfl, by decide⟩
theorem c10_bytes : cartB c10 = [1, 1, 0, 0, 0, 0, 0, 0, 0, 1, 1, 1, 5, 1, 1, 1, 1, 1, 4] := by decide
theorem z10_bytes : cartB (zeroV, []) = [0, 0, 0, 0, 0, 0, 0, 0, 0] := by decide
theorem w10a : withK [] [98] c10 = [([98], c10)] := rfl
theorem w10b : withK [([98], c10)] [97] (zeroV, []) = [([97], (zeroV, [])), ([98], c10)] := rfl
def l10 : List Kd := [([97], (zeroV, [])), ([98], c10)]
theorem l10_ok : KOk l10 where
  few := by decide
  up := by decide
  key := by decide
  cart := by
    intro e he
    simp only [l10, List.mem_cons, List.not_mem_nil, or_false] at he
    rcases he with rfl | rfl
    · exact z10_right
    · exact c10_right
theorem f10 : findK l10 [98] = (c10, true) := rfl
end Go.Proofs.YtlaeldgebecppaaGreat.Wi
