/- packs: a list with another cart; packs in plain Lean: a list there and back; what the fixed calls of chapter 10 come to; packs: alive of 10 (under way); packs: alive of 10; packs: what is written is bytes; packs, the law PackLists: which lists may be, their bytes, and the list of any bytes; bytes as a law's argument; PackLists over what was read -/
import Derived.Test.YtclcfjejpogdlaaGreatPP25
import Derived.Test.YtclcfjejpogdlaaGreatPP26
import Derived.Test.YtclcfjejpogdlaaGreatPP22
import Derived.Test.YtclcfjejpogdlaaGreatPP24
import Derived.Test.YtclcfjejpogdlaaGreatPP23
namespace Go.Proofs.YtclcfjejpogdlaaGreat.Wi
open Go Go.RowKit Go.Aw Go.Aw.Cart Go.Proofs.YtclcfjejpogdlaaGreat.Ca
set_option linter.unusedVariables false
set_option linter.unusedSimpArgs false
set_option maxRecDepth 8000
set_option maxHeartbeats 4000000
/-- another cart in an own slice's element -/
theorem lop_st_kd {C : Ctx} {o : Oper} {σ : St} {T : TypeId} {x y : Operand} {k : TK} {sz by_ : Nat} {ob g n ty i : Nat} {l : List Kd} {c : Crt} (ho : o.op = .store T x y) (hT : TI C.P T k sz by_) (hdst : o.dst = none) (hx : σ.look x = .o (.ptr ob g (i * 10 + 1))) (hy : σ.look y = .a (cL c.1 c.2 false)) (hm : σ.mem ob = (n, some (.buf ty 10 (l.map kR)))) (hs : sz = 9) (hn : n = g + 1) (hi : i < l.length) :
    LOp C o σ ⟨.un, [(ob, (n, some (.buf ty 10 ((l.set i ((l.getD i default).1, c)).map kR))))]⟩ (fun z => z == ob) := by
  have hg : (l.map kR)[i]? = some (kR (l.getD i default)) := by rw [List.getElem?_map, List.getElem?_eq_getElem hi, getD_at hi]; rfl
  have := lop_store_rowp (C := C) (o := o) (d := 1) (part := (kR ((l.getD i default).1, c)).drop 1) ho hdst hx hy rfl (by rw [hs]; rfl) hm hn hg (by omega)
  rw [hs] at this
  have e : (kR (l.getD i default)).take 1 ++ (kR ((l.getD i default).1, c)).drop 1 ++ (kR (l.getD i default)).drop (1 + 9) = kR ((l.getD i default).1, c) := rfl
  rwa [e, ← List.map_set] at this
theorem setK_len (l : List Kd) (k : List Nat) (c : Crt) : (setK l k c).length = l.length := List.length_map _
theorem setK_id {l : List Kd} {k : List Nat} {c : Crt} (h : hasK l k = false) : setK l k c = l := by
  have hno : ∀ e ∈ l, e.1 ≠ k := fun e he q => by
    have := hasK_iff.2 ⟨e, he, q⟩
    rw [h] at this; cases this
  unfold setK
  conv => rhs; rw [← List.map_id l]
  exact List.map_congr_left fun e he => by rw [if_neg (hno e he)]; rfl
theorem hasK_step {l : List Kd} {k : List Nat} {i : Nat} (h : i < l.length) : hasK (l.take (i + 1)) k = (hasK (l.take i) k || decide ((l.getD i default).1 = k)) := by
  unfold hasK
  rw [List.take_succ_eq_append_getElem h, List.any_append, getD_at h]; simp
theorem cur_at {l : List Kd} {k : List Nat} {c : Crt} {i : Nat} (h : i < l.length) : (setK (l.take i) k c ++ l.drop i).getD i default = l.getD i default := by
  have hl : (setK (l.take i) k c).length = i := by rw [setK_len, List.length_take]; omega
  rw [List.getD_eq_getElem?_getD, List.getElem?_append_right (by omega), hl, Nat.sub_self, List.getElem?_drop, Nat.add_zero, ← List.getD_eq_getElem?_getD]
theorem cur_len (l : List Kd) (k : List Nat) (c : Crt) {i : Nat} (h : i ≤ l.length) : (setK (l.take i) k c ++ l.drop i).length = l.length := by
  rw [List.length_append, setK_len, List.length_take, List.length_drop]; omega
theorem cur_step {l : List Kd} {k : List Nat} {c : Crt} {i : Nat} (h : i < l.length) : setK (l.take (i + 1)) k c ++ l.drop (i + 1) = if (l.getD i default).1 = k then (setK (l.take i) k c ++ l.drop i).set i ((l.getD i default).1, c) else setK (l.take i) k c ++ l.drop i := by
  have hl : (setK (l.take i) k c).length = i := by rw [setK_len, List.length_take]; omega
  have e1 : setK (l.take (i + 1)) k c = setK (l.take i) k c ++ [if (l.getD i default).1 = k then ((l.getD i default).1, c) else l.getD i default] := by
    unfold setK
    rw [List.take_succ_eq_append_getElem h, List.map_append, getD_at h]; rfl
  have e2 : l.drop i = l.getD i default :: l.drop (i + 1) := by rw [List.drop_eq_getElem_cons h, getD_at h]
  rw [e1]
  split
  · rw [e2, List.set_append_right _ _ (by omega), hl, Nat.sub_self, List.set_cons_zero, List.append_assoc]; rfl
  · conv => rhs; rw [e2]
    rw [List.append_assoc]; rfl
theorem gt_is {k : List Nat} : ∀ {l : List Kd} {i : Nat}, i < l.length → bLt k (l.getD i default).1 = true → (∀ j, j < i → bLt k (l.getD j default).1 = false) → gtI l k = i
  | [], i, h, _, _ => absurd h (Nat.not_lt_zero _)
  | e :: l, 0, h, hk, _ => by
    have hk' : bLt k e.1 = true := hk
    rw [gtI, if_pos hk']
  | e :: l, i + 1, h, hk, hno => by
    have h0 : bLt k e.1 = false := hno 0 (by omega)
    rw [gtI, if_neg (by rw [h0]; simp), gt_is (l := l) (i := i) (by simpa using h) hk fun j hj => hno (j + 1) (by omega)]
theorem gt_none {k : List Nat} : ∀ {l : List Kd}, (∀ j, j < l.length → bLt k (l.getD j default).1 = false) → gtI l k = l.length
  | [], _ => rfl
  | e :: l, hno => by
    have h0 : bLt k e.1 = false := hno 0 (by simp)
    rw [gtI, if_neg (by rw [h0]; simp), gt_none (l := l) fun j hj => hno (j + 1) (by simpa using hj)]; rfl
namespace WE
theorem lopC {C : Ctx} {o : Oper} {σ : St} {e : Eff} {ro : Nat → Bool} (h : LOp C o σ e ro := by
    first | (apply lop_lend2; (focus rfl); (focus exact inferInstance); (focus rfl); (focus rfl); (focus rfl); (focus exact (List.length_map ..).symm); (focus first | exact lk_m1 rfl | exact lk_m2 rfl | exact lk_m3 rfl | exact lk_o rfl | exact lk_a2 rfl | exact lk_a3 rfl | exact lk_a4 rfl | exact lk_a1 rfl | exact lk_a5 rfl | exact lk_a6 rfl | exact lk_a7 rfl | exact lk_a8 rfl | exact lk_a rfl); (focus exact inferInstance); (focus exact inferInstance); (focus first | exact True.intro | assumption | rfl | omega | ((repeat' (first | assumption | refine And.intro ?_ ?_ | omega | rfl)); done) | fail); (focus exact RV.v); (focus rfl)) | exact WD.lopC | fail) : LOp C o σ e ro := h
section steps
variable {C : Ctx} {ops : Array Oper} {o : Oper} {rest : List Oper} {K : St → Prop} {σ : St} {e : Eff} {ro : Nat → Bool} {W : List (Nat × Nat)} {i : Nat}
theorem rnC {d : Nat} (hk : RunN C ops rest K (e.app (some d) σ)) (hg : Guard ops σ o true := by first | exact gd_n rfl rfl | exact gd_t rfl rfl rfl rfl | exact gd_t rfl rfl rfl (by assumption)) (hd : o.dst = some d := by rfl) (h : LOp C o σ e ro := by exact lopC) : RunN C ops (o :: rest) K σ := rn_any hg hd h hk
theorem rkC {d : Nat} (hk : RunK C ops W (i + 1) rest K (e.app (some d) σ)) (hg : Guard ops σ o true := by first | exact gd_n rfl rfl | exact gd_t rfl rfl rfl rfl | exact gd_t rfl rfl rfl (by assumption)) (hd' : o.dst = some d := by rfl) (hd : dOk C o.dst = true := by rfl) (h : LOp C o σ e ro := by exact lopC)
    (hro : ∀ x, ro x = true → okObj ops W i x = true := by first | exact fun _ => ro_none | exact ro_one rfl | exact ro_k1 rfl | exact ro_one (by kernel_rfl) | exact ro_k1 (by kernel_rfl) | exact ro_kIn (by decide)) (hob : ∀ p ∈ e.obj, (i, p.1) ∈ W := by first | exact ob_none | exact ob_one (by decide) | decide) : RunK C ops W i (o :: rest) K σ := rk_wr hg hd' hd h hro hob hk
end steps
end WE
open WE
theorem cloneE_w (l : List Ent) (ex : Bool) (h : l.length ≤ 1000000) : PCall Tryz.prog 256 [.p (.sl 4 (l.map eR) ex)] (.p (.sl 4 (l.map eR) false)) := by
  refine pcall_of Tryz.func256 rfl (fun w0 F S0 M0 => ?_)
  as_aux_lemma =>
    repeat' (first | refine rnC ?_ | refine rnSB ?_ | refine rnG ?_ | refine rnU ?_ | ((fail_if_success (refine rnKn ?_)); refine rnP ?_ ?_ <;> (intro hq; try (have hq' := hq; simp only [hqs] at hq'))) | refine rkC ?_ | refine rkSB ?_ | refine rkF ?_ | refine rkU ?_ | ((fail_if_success (refine rkKn ?_)); refine rkP ?_ ?_ <;> (intro hq; try (have hq' := hq; simp only [hqs] at hq'))) | refine stp ?_ | refine ifT ?_ | refine ifF ?_ | (refine ifQ ?_ ?_ <;> (try (intro hn))) | (refine ifB ?_ ?_ <;> (intro hq; try (have hq' := hq; simp only [hqs] at hq'))))
    · have e : l = [] := List.eq_nil_of_length_eq_zero (by have := congrArg List.length hn; rwa [List.length_map, List.length_nil] at this)
      subst e
      exact rt1 rfl rfl (.one .nil) rfl
    · exact rt1 rfl rfl finS_p rfl
theorem with_w (l : List Kd) (ex : Bool) (x : Kd) (ex2 : Bool) (hl : l.length ≤ 100000) (hin : ∀ k ∈ l, okB k.1) (hk : okB x.1) (hc : x.2.2.length ≤ 1000000) : PCall Tryz.prog 224 [.p (.sl 10 (l.map kR) ex), .p (.v (.string (strOf x.1))), cV x.2.1 x.2.2 ex2] (.p (.sl 10 ((withK l x.1 x.2).map kR) false)) := by
  refine pcall_of Tryz.func224 rfl (fun w0 F S0 M0 => ?_)
  haveI : PC Tryz.prog 256 [.p (.sl 4 (x.2.2.map eR) ex2)] True (.p (.sl 4 (x.2.2.map eR) false)) := ⟨fun _ => cloneE_w _ _ hc⟩
  obtain ⟨A, hA⟩ : ∃ A, A = idxK (fun e => bLt x.1 e.1) l 0 l.length := ⟨_, rfl⟩
  haveI : PC Tryz.prog 226 [.p (.sl 10 (l.map kR) false), .p (.fnv 257 [.bx [.v (.string (strOf x.1))] 0])] True (.p (.i A)) := ⟨fun _ => by rw [hA]; exact indexFuncK_w _ _ inferInstance (fun e => bLt x.1 e.1) l false (by omega) fun e he => with1_w e x.1 (hin e he) hk⟩
  repeat' (first | refine rnC ?_ | refine rnSB ?_ | refine rnG ?_ | refine rnU ?_ | ((fail_if_success (refine rnKn ?_)); refine rnP ?_ ?_ <;> (intro hq; try (have hq' := hq; simp only [hqs] at hq'))) | refine rkC ?_ | refine rkSB ?_ | refine rkF ?_ | refine rkU ?_ | ((fail_if_success (refine rkKn ?_)); refine rkP ?_ ?_ <;> (intro hq; try (have hq' := hq; simp only [hqs] at hq'))) | refine stp ?_ | refine ifT ?_ | refine ifF ?_ | (refine ifQ ?_ ?_ <;> (try (intro hn))) | (refine ifB ?_ ?_ <;> (intro hq; try (have hq' := hq; simp only [hqs] at hq'))))
  refine aws_loopS [8, 9, 19, 20, 21, 22, 23, 24, 25, 26, 27, 28, 29, 30, 31, 32, 33, 34] [16] (fun (y : Nat × List Kd × Bool) => [(19, .p (.i y.1)), (8, .p (.b y.2.2))]) (fun y => [(16, (2, some (.buf 148 10 (y.2.1.map kR))))]) (fun y => y.1 ≤ l.length ∧ y.2.1 = setK (l.take y.1) x.1 x.2 ++ l.drop y.1 ∧ y.2.2 = hasK (l.take y.1) x.1) (fun y => l.length - y.1) (0, l, false) ⟨Nat.zero_le _, rfl, rfl⟩ (by exact knA) (by exact knA) ?_
  rintro ⟨i, cur, b⟩ β γ ⟨hi, hcur, hb⟩
  dsimp only at hi hcur hb ⊢
  have hcl : cur.length = l.length := by rw [hcur]; exact cur_len l x.1 x.2 hi
  by_cases hil : i < l.length
  · have d1 : decide ((i : Int) < (l.length : Int)) = true := decide_eq_true (by omega)
    have ei : (i : Int).toNat = i := Int.toNat_natCast i
    have hg : cur.getD (i : Int).toNat default = l.getD i default := by rw [ei, hcur]; exact cur_at hil
    have okc : okB (cur.getD (i : Int).toNat default).1 := by rw [hg, getD_at hil]; exact hin _ (List.getElem_mem _)
    have hst := cur_step (k := x.1) (c := x.2) hil
    have hbs := hasK_step (k := x.1) hil
    rw [← hcur] at hst
    rw [← hb] at hbs
    rw [← hg] at hst hbs
    by_cases he : (cur.getD (i : Int).toNat default).1 = x.1
    · have d2 : decide ((cur.getD (i : Int).toNat default).1 = x.1) = true := decide_eq_true he
      rw [if_pos he] at hst
      rw [d2, Bool.or_true] at hbs
      repeat' (first | refine rnC ?_ | refine rnSB ?_ | refine rnG ?_ | refine rnU ?_ | ((fail_if_success (refine rnKn ?_)); refine rnP ?_ ?_ <;> (intro hq; try (have hq' := hq; simp only [hqs] at hq'))) | refine rkC ?_ | refine rkSB ?_ | refine rkF ?_ | refine rkU ?_ | ((fail_if_success (refine rkKn ?_)); refine rkP ?_ ?_ <;> (intro hq; try (have hq' := hq; simp only [hqs] at hq'))) | refine stp ?_ | refine aws_draws [] mixed (by kernel_rfl) ?_ | refine ifT ?_ | refine ifF ?_ | (refine ifQ ?_ ?_ <;> (try (intro hn))) | (refine ifB ?_ ?_ <;> (intro hq; try (have hq' := hq; simp only [hqs] at hq'))))
      refine rn_sto (gd_n rfl rfl) rfl (lop_st_kd (ob := 16) (i := (i : Int).toNat) (c := x.2) rfl inferInstance rfl rfl rfl rfl rfl rfl (by omega)) ?_
      as_aux_lemma =>
        repeat' (first | refine rnC ?_ | refine rnSB ?_ | refine rnG ?_ | refine rnU ?_ | ((fail_if_success (refine rnKn ?_)); refine rnP ?_ ?_ <;> (intro hq; try (have hq' := hq; simp only [hqs] at hq'))) | refine rkC ?_ | refine rkSB ?_ | refine rkF ?_ | refine rkU ?_ | ((fail_if_success (refine rkKn ?_)); refine rkP ?_ ?_ <;> (intro hq; try (have hq' := hq; simp only [hqs] at hq'))) | refine stp ?_ | refine ifT ?_ | refine ifF ?_ | (refine ifQ ?_ ?_ <;> (try (intro hn))) | (refine ifB ?_ ?_ <;> (intro hq; try (have hq' := hq; simp only [hqs] at hq'))))
        exact ⟨(i + 1, cur.set (i : Int).toNat ((cur.getD (i : Int).toNat default).1, x.2), true), _, by dsimp only; omega, ⟨by dsimp only; omega, by dsimp only; rw [hst, ei], hbs.symm⟩, .refl, by exact frA⟩
    · have d2 : decide ((cur.getD (i : Int).toNat default).1 = x.1) = false := decide_eq_false he
      rw [if_neg he] at hst
      rw [d2, Bool.or_false] at hbs
      as_aux_lemma =>
        repeat' (first | refine rnC ?_ | refine rnSB ?_ | refine rnG ?_ | refine rnU ?_ | ((fail_if_success (refine rnKn ?_)); refine rnP ?_ ?_ <;> (intro hq; try (have hq' := hq; simp only [hqs] at hq'))) | refine rkC ?_ | refine rkSB ?_ | refine rkF ?_ | refine rkU ?_ | ((fail_if_success (refine rkKn ?_)); refine rkP ?_ ?_ <;> (intro hq; try (have hq' := hq; simp only [hqs] at hq'))) | refine stp ?_ | refine aws_draws [] mixed (by kernel_rfl) ?_ | refine ifT ?_ | refine ifF ?_ | (refine ifQ ?_ ?_ <;> (try (intro hn))) | (refine ifB ?_ ?_ <;> (intro hq; try (have hq' := hq; simp only [hqs] at hq'))))
        exact ⟨(i + 1, cur, b), _, by dsimp only; omega, ⟨by dsimp only; omega, hst.symm, hbs.symm⟩, .refl, by exact frA⟩
  · have d1 : decide ((i : Int) < (l.length : Int)) = false := decide_eq_false (by omega)
    obtain rfl : i = l.length := by omega
    rw [List.take_length, List.drop_length, List.append_nil] at hcur
    rw [List.take_length] at hb
    unfold withK
    cases b with
    | true =>
      rw [if_pos hb.symm, ← hcur]
      clear hcur hA hin
      as_aux_lemma =>
        repeat' (first | refine rnC ?_ | refine rnSB ?_ | refine rnG ?_ | refine rnU ?_ | ((fail_if_success (refine rnKn ?_)); refine rnP ?_ ?_ <;> (intro hq; try (have hq' := hq; simp only [hqs] at hq'))) | refine rkC ?_ | refine rkSB ?_ | refine rkF ?_ | refine rkU ?_ | ((fail_if_success (refine rkKn ?_)); refine rkP ?_ ?_ <;> (intro hq; try (have hq' := hq; simp only [hqs] at hq'))) | refine stp ?_ | refine aws_draws [] mixed (by kernel_rfl) ?_ | refine ifT ?_ | refine ifF ?_ | (refine ifQ ?_ ?_ <;> (try (intro hn))) | (refine ifB ?_ ?_ <;> (intro hq; try (have hq' := hq; simp only [hqs] at hq'))))
        exact rt1 rfl rfl (.one (finC_map rfl rfl rfl (by omega))) rfl
    | false =>
      rw [if_neg (by rw [← hb]; simp)]
      rw [setK_id hb.symm] at hcur
      subst hcur
      have hin1 : ∀ j, j < cur.length → okB (cur.getD j default).1 := fun j hj => by rw [getD_at hj]; exact hin _ (List.getElem_mem _)
      have ins : ∀ i0 : Nat, i0 ≤ cur.length → OCAt Tryz.prog 258 [.o (.osl 16 1 10 0 cur.length), .p (.i (i0 : Int)), .o (.osl 49 0 10 0 1)] [(16, (2, some (.buf 148 10 (cur.map kR)))), (49, (1, some (.buf 148 10 [kR x])))] [] (.o (.osl 16 2 10 0 (cur.take i0 ++ x :: cur.drop i0).length)) [(16, (3, some (.buf 148 10 ((cur.take i0 ++ x :: cur.drop i0).map kR)))), (49, (1, some (.buf 148 10 [kR x])))] := fun i0 h0 => (insert_o 1 0 cur x i0 h0 (by omega)).two 16 49 (by decide)
      rcases idxK_found (p := fun e => bLt x.1 e.1) (l := cur) cur.length 0 (by omega) with ⟨h1, h2⟩ | ⟨i0, h1, -, h3, h4, h5⟩
      · rw [← hA] at h1
        rw [gt_none fun j hj => h2 j (Nat.zero_le _) hj]
        have hI := ins cur.length (Nat.le_refl _)
        have d2 : decide (A < 0) = true := decide_eq_true (by omega)
        clear hA h2 hin hin1 ins h1
        repeat' (first | refine rnC ?_ | refine rnSB ?_ | refine rnG ?_ | refine rnU ?_ | ((fail_if_success (refine rnKn ?_)); refine rnP ?_ ?_ <;> (intro hq; try (have hq' := hq; simp only [hqs] at hq'))) | refine rkC ?_ | refine rkSB ?_ | refine rkF ?_ | refine rkU ?_ | ((fail_if_success (refine rkKn ?_)); refine rkP ?_ ?_ <;> (intro hq; try (have hq' := hq; simp only [hqs] at hq'))) | refine stp ?_ | refine ifT ?_ | refine ifF ?_ | (refine ifQ ?_ ?_ <;> (try (intro hn))) | (refine ifB ?_ ?_ <;> (intro hq; try (have hq' := hq; simp only [hqs] at hq'))))
        refine rn_any (gd_n rfl rfl) rfl (lop_ocall rfl inferInstance (.cons rfl (.cons rfl (.cons rfl .nil))) hI (by intro p hp; simp only [List.mem_cons, List.not_mem_nil, or_false] at hp; rcases hp with rfl | rfl <;> rfl) (by intro p hp; cases hp) (by intro p hp; simp only [List.mem_cons, List.not_mem_nil, or_false] at hp; rcases hp with rfl | rfl <;> rfl) (by intro p hp; cases hp) rfl) ?_
        as_aux_lemma =>
          repeat' (first | refine rnC ?_ | refine rnSB ?_ | refine rnG ?_ | refine rnU ?_ | ((fail_if_success (refine rnKn ?_)); refine rnP ?_ ?_ <;> (intro hq; try (have hq' := hq; simp only [hqs] at hq'))) | refine rkC ?_ | refine rkSB ?_ | refine rkF ?_ | refine rkU ?_ | ((fail_if_success (refine rkKn ?_)); refine rkP ?_ ?_ <;> (intro hq; try (have hq' := hq; simp only [hqs] at hq'))) | refine stp ?_ | refine ifT ?_ | refine ifF ?_ | (refine ifQ ?_ ?_ <;> (try (intro hn))) | (refine ifB ?_ ?_ <;> (intro hq; try (have hq' := hq; simp only [hqs] at hq'))))
          exact rt1 rfl rfl (.one (finC_map rfl rfl rfl rfl)) rfl
      · rw [← hA] at h1
        rw [gt_is h3 h4 fun j hj => h5 j (Nat.zero_le _) hj]
        have hI := ins i0 (by omega)
        clear hA h4 h5 hin hin1 ins
        subst h1
        have d2 : decide ((i0 : Int) < 0) = false := decide_eq_false (by omega)
        repeat' (first | refine rnC ?_ | refine rnSB ?_ | refine rnG ?_ | refine rnU ?_ | ((fail_if_success (refine rnKn ?_)); refine rnP ?_ ?_ <;> (intro hq; try (have hq' := hq; simp only [hqs] at hq'))) | refine rkC ?_ | refine rkSB ?_ | refine rkF ?_ | refine rkU ?_ | ((fail_if_success (refine rkKn ?_)); refine rkP ?_ ?_ <;> (intro hq; try (have hq' := hq; simp only [hqs] at hq'))) | refine stp ?_ | refine ifT ?_ | refine ifF ?_ | (refine ifQ ?_ ?_ <;> (try (intro hn))) | (refine ifB ?_ ?_ <;> (intro hq; try (have hq' := hq; simp only [hqs] at hq'))))
        refine rn_any (gd_n rfl rfl) rfl (lop_ocall rfl inferInstance (.cons rfl (.cons rfl (.cons rfl .nil))) hI (by intro p hp; simp only [List.mem_cons, List.not_mem_nil, or_false] at hp; rcases hp with rfl | rfl <;> rfl) (by intro p hp; cases hp) (by intro p hp; simp only [List.mem_cons, List.not_mem_nil, or_false] at hp; rcases hp with rfl | rfl <;> rfl) (by intro p hp; cases hp) rfl) ?_
        as_aux_lemma =>
          repeat' (first | refine rnC ?_ | refine rnSB ?_ | refine rnG ?_ | refine rnU ?_ | ((fail_if_success (refine rnKn ?_)); refine rnP ?_ ?_ <;> (intro hq; try (have hq' := hq; simp only [hqs] at hq'))) | refine rkC ?_ | refine rkSB ?_ | refine rkF ?_ | refine rkU ?_ | ((fail_if_success (refine rkKn ?_)); refine rkP ?_ ?_ <;> (intro hq; try (have hq' := hq; simp only [hqs] at hq'))) | refine stp ?_ | refine ifT ?_ | refine ifF ?_ | (refine ifQ ?_ ?_ <;> (try (intro hn))) | (refine ifB ?_ ?_ <;> (intro hq; try (have hq' := hq; simp only [hqs] at hq'))))
          exact rt1 rfl rfl (.one (finC_map rfl rfl rfl rfl)) rfl
end Go.Proofs.YtclcfjejpogdlaaGreat.Wi
namespace Go.Proofs.YtclcfjejpogdlaaGreat.Wi
open Go Go.RowKit Go.Aw Go.Aw.Cart Go.Proofs.YtclcfjejpogdlaaGreat.Ca
set_option linter.unusedVariables false
set_option linter.unusedSimpArgs false
theorem kd_back {k : Kd} (hl : k.1.length ≤ 20) (hr : rightF k.2.1 k.2.2 = true) (hv : vecOk k.2.1) (q : List Nat) : kdS (kdB k ++ q, 0) = (k, (q, 0)) := by
  unfold kdB
  rw [List.append_assoc]
  simp only [kdS, bindS, pureS, text_back (b := k.1) (most := 20) (by omega) (by decide), cart_back (c := k.2) hr hv]
theorem list_back {l : List Kd} (h : KOk l) (hv : ∀ k ∈ l, vecOk k.2.1) (q : List Nat) : listS (listB l ++ q, 0) = (l, (q, 0)) := by
  have hm := many_back (P := kdS) (enc := kdB) (L := l) (fun a ha q => kd_back (h.key a ha) (h.cart a ha) (hv a ha) q) q l.length (Nat.le_refl _)
  unfold listB
  rw [List.append_assoc]
  simp only [listS, bindS, small_back (x := l.length) (most := 2000) (by have := h.few; omega) (by decide), Int.toNat_natCast, hm, List.take_length, List.drop_length, List.flatMap_nil, List.nil_append]
theorem readL_back {l : List Kd} (h : KOk l) (hv : ∀ k ∈ l, vecOk k.2.1) : readL (listB l) = (l, 0) := by
  have := list_back h hv []
  rw [List.append_nil] at this
  unfold readL
  rw [this, if_neg]
  rintro (h1 | h1)
  · exact h1 rfl
  · rw [keys_iff.2 h] at h1; cases h1
/-- the carts of chapter 10's fixed calls -/
def c10 : Crt := ([1, 0, 0, 0, 0, 0, 0, 0], [(5, 1, 1, 2)])
theorem c10_right : rightF c10.1 c10.2 = true := rightF_iff.2 ⟨by decide, by decide, by decide⟩
theorem z10_right : rightF zeroV [] = true := rightF_iff.2 ⟨by decide, by decide, by decide⟩
theorem c10_vec : vecOk c10.1 := ⟨rfl, by decide⟩
theorem w10a : withK [] [98] c10 = [([98], c10)] := rfl
theorem w10b : withK [([98], c10)] [97] (zeroV, []) = [([97], (zeroV, [])), ([98], c10)] := rfl
def l10 : List Kd := [([97], (zeroV, [])), ([98], c10)]
theorem l10_ok : KOk l10 where
  few := by decide
  up := by decide
  key := by decide
  cart := by
    intro e he
    simp only [l10, List.mem_cons, List.not_mem_nil, or_false] at he
    rcases he with rfl | rfl
    · exact z10_right
    · exact c10_right
end Go.Proofs.YtclcfjejpogdlaaGreat.Wi
namespace Go.Aw
open Go Go.RowKit
/-- a contract, handed what says as much -/
theorem PCall.weak {P : Program} {f : FuncId} {args args' : List AV} {r : AV} (h : PCall P f args r) (ha : All2 (fun a b => ∀ X v, AV.holds Mu.none X a v → AV.holds Mu.none X b v) args' args) : PCall P f args' r := fun w S vs hS hv =>
  h w S vs hS ⟨by rw [← ha.1, hv.1], fun i a v hi hvi => by
    have hil : i < args'.length := by rw [ha.1]; exact (List.getElem?_eq_some_iff.1 hi).1
    exact ha.2 i args'[i] a (List.getElem?_eq_getElem hil) hi _ _ (hv.2 i _ v (List.getElem?_eq_getElem hil) hvi)⟩
theorem weak_same {a : AV} : ∀ X v, AV.holds Mu.none X a v → AV.holds Mu.none X a v := fun _ _ h => h
theorem weak_nil {es : Nat} {ex : Bool} : ∀ X v, AV.holds Mu.none X (.p (.v (.slice none 0 0))) v → AV.holds Mu.none X (.p (.sl es [] ex)) v := fun X v h => Ent.nil Mu.none X v h
/-- an aggregate whose last cell is nil -/
theorem weak_last {cs : List AC} {es : Nat} {ex : Bool} : ∀ X v, AV.holds Mu.none X (.a (cs ++ [.p (.v (.slice none 0 0))])) v → AV.holds Mu.none X (.a (cs ++ [.p (.sl es [] ex)])) v := by
  rintro X v ⟨arr, rfl, h⟩
  obtain ⟨u, w, rfl, h1, h2⟩ := h.split_inv
  obtain ⟨y, w, rfl, h3, h4⟩ := h2.cons_inv
  obtain rfl := h4.nil_inv
  refine ⟨_, rfl, h1.append (.cons ?_ .nil)⟩
  obtain ⟨rfl, _⟩ := h3
  exact ⟨none, 0, rfl, Nat.le_refl _, by simp [maxLen], fun _ => rfl, rfl, rfl⟩
end Go.Aw
namespace Go.Proofs.YtclcfjejpogdlaaGreat.Wi
open Go Go.RowKit Go.Aw Go.Aw.Cart Go.Proofs.YtclcfjejpogdlaaGreat.Ca
set_option linter.unusedVariables false
set_option linter.unusedSimpArgs false
set_option maxRecDepth 8000
set_option maxHeartbeats 4000000
open WE
abbrev cA (ex : Bool) : List AC := [.p (.k .u64 1), .p (.k .u64 0), .p (.k .u64 0), .p (.k .u64 0), .p (.k .u64 0), .p (.k .u64 0), .p (.k .u64 0), .p (.k .u64 0), .p (.sl 4 [[.i 5, .i 1, .k .u64 1, .i 2]] ex)]
abbrev cZ : List AC := [.p (.k .u64 0), .p (.k .u64 0), .p (.k .u64 0), .p (.k .u64 0), .p (.k .u64 0), .p (.k .u64 0), .p (.k .u64 0), .p (.k .u64 0), .p (.v (.slice none 0 0))]
theorem ok98 : okB [98] := by intro c hc; simp at hc; omega
theorem ok97 : okB [97] := by intro c hc; simp at hc; omega
theorem kdi10 : ∀ k ∈ l10, KdI k := by
  intro k hk
  simp only [l10, List.mem_cons, List.not_mem_nil, or_false] at hk
  rcases hk with rfl | rfl
  · exact ⟨ok97, by decide, zeroV_ok, by decide⟩
  · exact ⟨ok98, by decide, c10_vec, by decide⟩
theorem l1 (L : List Kd) (hL : L = [([98], c10)]) : PCall Tryz.prog 224 [.p (.v (.slice none 0 0)), .p (.v (.string { data := #[98] })), .a (cA true)] (.p (.sl 10 (L.map kR) false)) := by
  have h := with_w [] false ([98], c10) true (by decide) (fun k hk => by cases hk) ok98 (by decide)
  rw [w10a] at h
  rw [hL]
  exact h.weak (.cons weak_nil (.cons weak_same (.cons weak_same .nil)))
theorem l2 (L L2 : List Kd) (hL : L = [([98], c10)]) (hL2 : L2 = l10) : PCall Tryz.prog 224 [.p (.sl 10 (L.map kR) false), .p (.v (.string { data := #[97] })), .a cZ] (.p (.sl 10 (L2.map kR) false)) := by
  have h := with_w [([98], c10)] false ([97], (zeroV, [])) false (by decide) (fun k hk => by simp only [List.mem_cons, List.not_mem_nil, or_false] at hk; rw [hk]; exact ok98) ok97 (by decide)
  rw [w10b] at h
  rw [hL, hL2]
  exact h.weak (.cons weak_same (.cons weak_same (.cons (weak_last (cs := v8L zeroV)) .nil)))
theorem s1 (L2 : List Kd) (S : List Nat) (hL2 : L2 = l10) (hS : S = listB l10) : PCall Tryz.prog 82 [.p (.sl 10 (L2.map kR) false)] (.tup [.one (.p (.sl 1 (S.map bR) false)), .one (.p (.i 0))]) := by
  rw [hL2, hS]; exact writeAll_ok l10 false (keys_iff.2 l10_ok) kdi10
theorem s2 (L2 : List Kd) (S : List Nat) (hL2 : L2 = l10) (hS : S = listB l10) (hb : okB (listB l10)) (hl : (listB l10).length ≤ 1000) : PCall Tryz.prog 100 [.p (.sl 1 (S.map bR) false)] (.tup [.one (.p (.sl 10 (L2.map kR) false)), .one (.p (.i 0))]) := by
  have h := readAll_w (listB l10) false hb (by omega)
  rw [readL_back l10_ok fun k hk => (kdi10 k hk).vec] at h
  rw [hL2, hS]; exact h
end Go.Proofs.YtclcfjejpogdlaaGreat.Wi
namespace Go.Proofs.YtclcfjejpogdlaaGreat.Wi
open Go Go.RowKit Go.Aw Go.Aw.Cart Go.Proofs.YtclcfjejpogdlaaGreat.Ca
set_option linter.unusedVariables false
set_option linter.unusedSimpArgs false
set_option maxRecDepth 8000
set_option maxHeartbeats 4000000
open WE
end Go.Proofs.YtclcfjejpogdlaaGreat.Wi
namespace Go.Proofs.YtclcfjejpogdlaaGreat.Wi
open Go Go.RowKit Go.Aw Go.Aw.Cart Go.Proofs.YtclcfjejpogdlaaGreat.Ca
set_option linter.unusedVariables false
set_option linter.unusedSimpArgs false
theorem okB_app {a b : List Nat} (ha : okB a) (hb : okB b) : okB (a ++ b) := fun c hc => (List.mem_append.1 hc).elim (ha c) (hb c)
theorem okB_flat {α : Type} {f : α → List Nat} {l : List α} (h : ∀ x ∈ l, okB (f x)) : okB (l.flatMap f) := fun c hc => by
  obtain ⟨x, hx, hc⟩ := List.mem_flatMap.1 hc
  exact h x hx c hc
theorem numB_ok (x : Nat) : okB (numB x) := fun c hc => by
  rcases List.mem_cons.1 hc with rfl | h
  · have := beF_le 8 x
    show (beF 8 x).length < 256
    omega
  · exact beF_byte 8 x c h
theorem cartB_ok (c : Crt) : okB (cartB c) := by
  refine okB_app (okB_flat fun n _ => numB_ok _) (okB_app (numB_ok _) (okB_flat fun e _ => ?_))
  exact okB_app (numB_ok _) (okB_app (numB_ok _) (okB_app (numB_ok _) (numB_ok _)))
theorem listB_ok {l : List Kd} (h : ∀ k ∈ l, okB k.1) : okB (listB l) :=
  okB_app (numB_ok _) (okB_flat fun k hk => okB_app (okB_app (numB_ok _) (h k hk)) (cartB_ok _))
end Go.Proofs.YtclcfjejpogdlaaGreat.Wi
namespace Go.Proofs.YtclcfjejpogdlaaGreat.Wi
open Go Go.RowKit Go.Aw Go.Aw.Cart Go.Proofs.YtclcfjejpogdlaaGreat.Ca
set_option linter.unusedVariables false
set_option linter.unusedSimpArgs false
set_option maxRecDepth 8000
set_option maxHeartbeats 4000000
open WE
end Go.Proofs.YtclcfjejpogdlaaGreat.Wi
namespace Go.Proofs.YtclcfjejpogdlaaGreat.Wi
open Go Go.RowKit Go.Aw Go.Aw.Cart Go.Proofs.YtclcfjejpogdlaaGreat.Ca
set_option linter.unusedVariables false
set_option linter.unusedSimpArgs false
theorem u8_of {n : Int} (h : IntKind.u8.min ≤ n ∧ n ≤ IntKind.u8.max) : ((n.toNat : Nat) : Int) = n ∧ n.toNat < 256 := by
  simp only [IntKind.min, IntKind.max, IntKind.signed, IntKind.bits] at h
  simp at h; omega
theorem u8s_map {β : Type} {f : Int → β} {l : List Int} (h : ∀ n ∈ l, IntKind.u8.min ≤ n ∧ n ≤ IntKind.u8.max) : (l.map Int.toNat).map (fun n : Nat => f (n : Int)) = l.map f := by
  rw [List.map_map]
  exact List.map_congr_left fun n hn => by simp only [Function.comp_apply, (u8_of (h n hn)).1]
theorem u8s_ok {l : List Int} (h : ∀ n ∈ l, IntKind.u8.min ≤ n ∧ n ≤ IntKind.u8.max) : okB (l.map Int.toNat) := fun n hn => by
  obtain ⟨m, hm, rfl⟩ := List.mem_map.1 hn
  exact (u8_of (h m hm)).2
theorem rd_bytesP : Reads Tryz.prog 25 (List Nat) (fun b => [.sl 1 (b.map bR) false]) (fun b => okB b ∧ b.length ≤ 9223372036854775807) :=
  (reads_slice (α := Int) (row := fun n => [PVal.k .u8 n]) (ok := fun n => IntKind.u8.min ≤ n ∧ n ≤ IntKind.u8.max) inferInstance inferInstance (by decide) (reads_int inferInstance)).imp' (fun l => l.map Int.toNat)
    (fun l h => by rw [← u8s_map (f := fun n => [PVal.k .u8 n]) h.2]) (fun l h => ⟨u8s_ok h.2, by rw [List.length_map]; simpa [maxLen] using h.1⟩)
end Go.Proofs.YtclcfjejpogdlaaGreat.Wi
