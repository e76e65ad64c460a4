/- THE ABSTRACT WALK, part 32: a part of an element of an own slice is written. Nothing here speaks of a program.; packs: a list with another cart; packs in plain Lean: a list there and back; what the fixed calls of chapter 10 come to; packs: alive of 10 (under way); packs: alive of 10 -/
import Derived.Test.YtclcfjejpogdlaaGreatIB24
import Derived.Test.YtclcfjejpogdlaaGreatIB21
import Derived.Test.YtclcfjejpogdlaaGreatIB23
namespace Go.Aw
open Go Go.RowKit
set_option linter.unusedVariables false
set_option linter.unusedSimpArgs false
theorem lop_store_rowp {C : Ctx} {o : Oper} {σ : St} {T : TypeId} {x y : Operand} {k : TK} {sz by_ : Nat} [hT : TI C.P T k sz by_] {ob g n ty i es d : Nat} {rows : List (List PVal)} {old part : List PVal} {s : SV} (ho : o.op = .store T x y) (hdst : o.dst = none) (hx : σ.look x = .o (.ptr ob g (i * es + d))) (hy : σ.look y = .s s)
    (hsc : s.cells = part.map .p) (hrl : part.length = sz) (hm : σ.mem ob = (n, some (.buf ty es rows))) (hn : n = g + 1) (hi : rows[i]? = some old) (hde : d + sz ≤ es) : LOp C o σ ⟨.un, [(ob, (n, some (.buf ty es (rows.set i (old.take d ++ part ++ old.drop (d + sz))))))]⟩ (fun z => z == ob) :=
  lop_same (by simp) (by rw [hdst]; rfl) hm fun τ a w G g0 m hl' hm' h hng hmm hh => by
    subst hn
    obtain rfl : g = g0 := by omega
    obtain ⟨b, c', h1, h2⟩ := look_of h ((hl' x (by simp [ho, Op.operands])).trans hx)
    have h3 : s.holds G.μ ⟨w, G.S⟩ (a.eval y) := look_of h ((hl' y (by simp [ho, Op.operands])).trans hy)
    obtain ⟨hes, hmax, hrl2, hh⟩ := hh
    rw [h1] at hmm; obtain rfl := Option.some.inj hmm
    have hil : i < rows.length := (List.getElem?_eq_some_iff.1 hi).1
    rcases hh with ⟨h4, _⟩ | ⟨b', arr, h4, h5, h6, h7, h8⟩
    · simp at h4
    · simp only [Option.some.injEq] at h4; subst h4
      have h9 := h3.cells
      rw [hsc] at h9
      have hvl : (a.eval y).cells.toList.length = sz := by rw [← h9.1]; simpa using hrl
      have hone : ∀ u ∈ (a.eval y).cells.toList, u.oneCell' = true := fun u hu => by
        obtain ⟨j, hj, hu'⟩ := List.mem_iff_getElem.1 hu
        have hj' : j < (part.map AC.p).length := by rw [h9.1]; exact hj
        exact (h9.2 j (part.map AC.p)[j] u (by simp [hj']) (by rw [← hu']; exact List.getElem?_eq_getElem _)).one
      have hmul : i * es + es ≤ arr.size := by
        simp only at h7 hrl2
        rw [h7]
        calc i * es + es = (i + 1) * es := by rw [Nat.add_mul, Nat.one_mul]
          _ ≤ c' * es := Nat.mul_le_mul_right _ (by omega)
      have hsz : arr.toList.length = arr.size := Array.length_toList
      have h6' : w.heap[b]? = some (.cells arr.toList.toArray ty (0, 0)) := by simpa using h6
      have hr := run_storeVar hT h6' (off := i * es + d) (v := a.eval y) (by rw [hsz]; omega) (by simpa using hvl) hone
      have hle : Wd.le ⟨w, G.S⟩ ⟨w.setRow b (arr.toList.take (i * es + d) ++ (a.eval y).cells.toList ++ arr.toList.drop (i * es + d + sz)).toArray, G.S⟩ := fun k hk =>
        ⟨hk, setRow_other w b k _ fun e => h.stab ob b (by rw [h5]; simp) (e ▸ hk)⟩
      have htl : (arr.toList.take (i * es + d)).length = i * es + d := by rw [List.length_take]; omega
      have hget : ∀ (t : Nat) v, arr[t]? = some v → (t < i * es + d ∨ i * es + d + sz ≤ t) → (arr.toList.take (i * es + d) ++ (a.eval y).cells.toList ++ arr.toList.drop (i * es + d + sz))[t]? = some v := fun t v hv ht => by
        rw [List.append_assoc]
        rcases ht with ht | ht
        · rw [List.getElem?_append_left (by omega), List.getElem?_take, if_pos ht]; simpa using hv
        · rw [List.getElem?_append_right (by omega), htl, List.getElem?_append_right (by omega), hvl, List.getElem?_drop]
          rw [show i * es + d + sz + (t - (i * es + d) - sz) = t by omega]; simpa using hv
      refine ⟨.skip, undef, w.setRow b (arr.toList.take (i * es + d) ++ (a.eval y).cells.toList ++ arr.toList.drop (i * es + d + sz)).toArray, ?_, .inr ⟨rfl, rfl⟩, setRow_frame.1, setRow_frame.2.1, setRow_frame.2.2.1, setRow_frame.2.2.2,
        fun k _ hk => setRow_other w b k _ fun e => hk (by rw [h5, e]; simp), ⟨hes, hmax, by simpa using hrl2, .inr ⟨b, _, rfl, h5, setRow_heap w b _ _ ty _ h6', ?_, ?_⟩⟩, trivial⟩
      · simp only [execOp, ho, h2, Instr.storeAt, Instr.sureAddr, Sem.run_bind, Sem.run_pure, Result.andThen_ok, hr]
      · simp only [List.size_toArray, List.length_append, List.length_take, List.length_drop, Array.length_toList, hvl]
        rw [Nat.min_eq_left (by omega)]
        simp only at h7; omega
      · intro q r hq
        by_cases hqi : q = i
        · subst hqi
          rw [List.getElem?_set_self hil] at hq
          obtain rfl := Option.some.inj hq
          obtain ⟨e1, e2⟩ := h8 q old hi
          have hol : (old.take d).length = d := by rw [List.length_take]; omega
          refine ⟨by rw [List.length_append, List.length_append, hol, hrl, List.length_drop]; omega, fun j p hp => ?_⟩
          simp only [Nat.zero_add, List.getElem?_toArray]
          by_cases hj1 : j < d
          · rw [List.append_assoc, List.getElem?_append_left (by omega), List.getElem?_take, if_pos hj1] at hp
            obtain ⟨v, hv, hpv⟩ := e2 j p hp
            rw [Nat.zero_add] at hv
            exact ⟨v, hget _ v hv (.inl (by omega)), p.mono hle hpv⟩
          · by_cases hj2 : j < d + sz
            · rw [List.append_assoc, List.getElem?_append_right (by omega), hol, List.getElem?_append_left (by omega)] at hp
              obtain ⟨v, hv, hpv⟩ := h9.get (i := j - d) (a := .p p) (by simp [hp])
              refine ⟨v, ?_, p.mono hle hpv⟩
              rw [List.append_assoc, List.getElem?_append_right (by omega), htl, List.getElem?_append_left (by omega), ← hv]
              congr 1; omega
            · rw [List.append_assoc, List.getElem?_append_right (by omega), hol, List.getElem?_append_right (by omega), hrl, List.getElem?_drop] at hp
              rw [show d + sz + (j - d - sz) = j by omega] at hp
              obtain ⟨v, hv, hpv⟩ := e2 j p hp
              rw [Nat.zero_add] at hv
              exact ⟨v, hget _ v hv (.inr (by omega)), p.mono hle hpv⟩
        · rw [List.getElem?_set_ne (fun e => hqi e.symm)] at hq
          obtain ⟨e1, e2⟩ := h8 q r hq
          refine ⟨e1, fun j p hp => ?_⟩
          obtain ⟨v, hv, hpv⟩ := e2 j p hp
          have hj : j < es := by rw [← e1]; exact (List.getElem?_eq_some_iff.1 hp).1
          simp only [Nat.zero_add, List.getElem?_toArray]
          rw [Nat.zero_add] at hv
          refine ⟨v, hget _ v hv ?_, p.mono hle hpv⟩
          rcases Nat.lt_or_ge q i with hlt | hge
          · have : q * es + es ≤ i * es := by
              calc q * es + es = (q + 1) * es := by rw [Nat.add_mul, Nat.one_mul]
                _ ≤ i * es := Nat.mul_le_mul_right _ hlt
            left; omega
          · have : i * es + es ≤ q * es := by
              calc i * es + es = (i + 1) * es := by rw [Nat.add_mul, Nat.one_mul]
                _ ≤ q * es := Nat.mul_le_mul_right _ (by omega)
            right; omega
end Go.Aw
namespace Go.Proofs.YtclcfjejpogdlaaGreat.Wi
open Go Go.RowKit Go.Aw Go.Aw.Cart Go.Proofs.YtclcfjejpogdlaaGreat.Ca
set_option linter.unusedVariables false
set_option linter.unusedSimpArgs false
set_option maxRecDepth 8000
set_option maxHeartbeats 4000000
/-- another cart in an own slice's element -/
theorem lop_st_kd {C : Ctx} {o : Oper} {σ : St} {T : TypeId} {x y : Operand} {k : TK} {sz by_ : Nat} {ob g n ty i : Nat} {l : List Kd} {c : Crt} (ho : o.op = .store T x y) (hT : TI C.P T k sz by_) (hdst : o.dst = none) (hx : σ.look x = .o (.ptr ob g (i * 10 + 1))) (hy : σ.look y = .a (cL c.1 c.2 false)) (hm : σ.mem ob = (n, some (.buf ty 10 (l.map kR)))) (hs : sz = 9) (hn : n = g + 1) (hi : i < l.length) :
    LOp C o σ ⟨.un, [(ob, (n, some (.buf ty 10 ((l.set i ((l.getD i default).1, c)).map kR))))]⟩ (fun z => z == ob) := by
  have hg : (l.map kR)[i]? = some (kR (l.getD i default)) := by rw [List.getElem?_map, List.getElem?_eq_getElem hi, getD_at hi]; rfl
  have := lop_store_rowp (C := C) (o := o) (d := 1) (part := (kR ((l.getD i default).1, c)).drop 1) ho hdst hx hy rfl (by rw [hs]; rfl) hm hn hg (by omega)
  rw [hs] at this
  have e : (kR (l.getD i default)).take 1 ++ (kR ((l.getD i default).1, c)).drop 1 ++ (kR (l.getD i default)).drop (1 + 9) = kR ((l.getD i default).1, c) := rfl
  rwa [e, ← List.map_set] at this
theorem setK_len (l : List Kd) (k : List Nat) (c : Crt) : (setK l k c).length = l.length := List.length_map _
theorem setK_id {l : List Kd} {k : List Nat} {c : Crt} (h : hasK l k = false) : setK l k c = l := by
  have hno : ∀ e ∈ l, e.1 ≠ k := fun e he q => by
    have := hasK_iff.2 ⟨e, he, q⟩
    rw [h] at this; cases this
  unfold setK
  conv => rhs; rw [← List.map_id l]
  exact List.map_congr_left fun e he => by rw [if_neg (hno e he)]; rfl
theorem hasK_step {l : List Kd} {k : List Nat} {i : Nat} (h : i < l.length) : hasK (l.take (i + 1)) k = (hasK (l.take i) k || decide ((l.getD i default).1 = k)) := by
  unfold hasK
  rw [List.take_succ_eq_append_getElem h, List.any_append, getD_at h]; simp
theorem cur_at {l : List Kd} {k : List Nat} {c : Crt} {i : Nat} (h : i < l.length) : (setK (l.take i) k c ++ l.drop i).getD i default = l.getD i default := by
  have hl : (setK (l.take i) k c).length = i := by rw [setK_len, List.length_take]; omega
  rw [List.getD_eq_getElem?_getD, List.getElem?_append_right (by omega), hl, Nat.sub_self, List.getElem?_drop, Nat.add_zero, ← List.getD_eq_getElem?_getD]
theorem cur_len (l : List Kd) (k : List Nat) (c : Crt) {i : Nat} (h : i ≤ l.length) : (setK (l.take i) k c ++ l.drop i).length = l.length := by
  rw [List.length_append, setK_len, List.length_take, List.length_drop]; omega
theorem cur_step {l : List Kd} {k : List Nat} {c : Crt} {i : Nat} (h : i < l.length) : setK (l.take (i + 1)) k c ++ l.drop (i + 1) = if (l.getD i default).1 = k then (setK (l.take i) k c ++ l.drop i).set i ((l.getD i default).1, c) else setK (l.take i) k c ++ l.drop i := by
  have hl : (setK (l.take i) k c).length = i := by rw [setK_len, List.length_take]; omega
  have e1 : setK (l.take (i + 1)) k c = setK (l.take i) k c ++ [if (l.getD i default).1 = k then ((l.getD i default).1, c) else l.getD i default] := by
    unfold setK
    rw [List.take_succ_eq_append_getElem h, List.map_append, getD_at h]; rfl
  have e2 : l.drop i = l.getD i default :: l.drop (i + 1) := by rw [List.drop_eq_getElem_cons h, getD_at h]
  rw [e1]
  split
  · rw [e2, List.set_append_right _ _ (by omega), hl, Nat.sub_self, List.set_cons_zero, List.append_assoc]; rfl
  · conv => rhs; rw [e2]
    rw [List.append_assoc]; rfl
theorem gt_is {k : List Nat} : ∀ {l : List Kd} {i : Nat}, i < l.length → bLt k (l.getD i default).1 = true → (∀ j, j < i → bLt k (l.getD j default).1 = false) → gtI l k = i
  | [], i, h, _, _ => absurd h (Nat.not_lt_zero _)
  | e :: l, 0, h, hk, _ => by
    have hk' : bLt k e.1 = true := hk
    rw [gtI, if_pos hk']
  | e :: l, i + 1, h, hk, hno => by
    have h0 : bLt k e.1 = false := hno 0 (by omega)
    rw [gtI, if_neg (by rw [h0]; simp), gt_is (l := l) (i := i) (by simpa using h) hk fun j hj => hno (j + 1) (by omega)]
theorem gt_none {k : List Nat} : ∀ {l : List Kd}, (∀ j, j < l.length → bLt k (l.getD j default).1 = false) → gtI l k = l.length
  | [], _ => rfl
  | e :: l, hno => by
    have h0 : bLt k e.1 = false := hno 0 (by simp)
    rw [gtI, if_neg (by rw [h0]; simp), gt_none (l := l) fun j hj => hno (j + 1) (by simpa using hj)]; rfl
namespace WE
theorem lopC {C : Ctx} {o : Oper} {σ : St} {e : Eff} {ro : Nat → Bool} (h : LOp C o σ e ro := by
    first | (apply lop_lend2; (focus rfl); (focus exact inferInstance); (focus rfl); (focus rfl); (focus rfl); (focus exact (List.length_map ..).symm); (focus first | exact lk_m1 rfl | exact lk_m2 rfl | exact lk_m3 rfl | exact lk_o rfl | exact lk_a2 rfl | exact lk_a3 rfl | exact lk_a4 rfl | exact lk_a1 rfl | exact lk_a5 rfl | exact lk_a6 rfl | exact lk_a7 rfl | exact lk_a8 rfl | exact lk_a rfl); (focus exact inferInstance); (focus exact inferInstance); (focus first | exact True.intro | assumption | rfl | omega | ((repeat' (first | assumption | refine And.intro ?_ ?_ | omega | rfl)); done) | fail); (focus exact RV.v); (focus rfl)) | exact WD.lopC | fail) : LOp C o σ e ro := h
section steps
variable {C : Ctx} {ops : Array Oper} {o : Oper} {rest : List Oper} {K : St → Prop} {σ : St} {e : Eff} {ro : Nat → Bool} {W : List (Nat × Nat)} {i : Nat}
theorem rnC {d : Nat} (hk : RunN C ops rest K (e.app (some d) σ)) (hg : Guard ops σ o true := by first | exact gd_n rfl rfl | exact gd_t rfl rfl rfl rfl | exact gd_t rfl rfl rfl (by assumption)) (hd : o.dst = some d := by rfl) (h : LOp C o σ e ro := by exact lopC) : RunN C ops (o :: rest) K σ := rn_any hg hd h hk
theorem rkC {d : Nat} (hk : RunK C ops W (i + 1) rest K (e.app (some d) σ)) (hg : Guard ops σ o true := by first | exact gd_n rfl rfl | exact gd_t rfl rfl rfl rfl | exact gd_t rfl rfl rfl (by assumption)) (hd' : o.dst = some d := by rfl) (hd : dOk C o.dst = true := by rfl) (h : LOp C o σ e ro := by exact lopC)
    (hro : ∀ x, ro x = true → okObj ops W i x = true := by first | exact fun _ => ro_none | exact ro_one rfl | exact ro_k1 rfl | exact ro_one (by kernel_rfl) | exact ro_k1 (by kernel_rfl) | exact ro_kIn (by decide)) (hob : ∀ p ∈ e.obj, (i, p.1) ∈ W := by first | exact ob_none | exact ob_one (by decide) | decide) : RunK C ops W i (o :: rest) K σ := rk_wr hg hd' hd h hro hob hk
end steps
end WE
open WE
theorem cloneE_w (l : List Ent) (ex : Bool) (h : l.length ≤ 1000000) : PCall Tryz.prog 256 [.p (.sl 4 (l.map eR) ex)] (.p (.sl 4 (l.map eR) false)) := by
  refine pcall_of Tryz.func256 rfl (fun w0 F S0 M0 => ?_)
  as_aux_lemma =>
    repeat' (first | refine rnC ?_ | refine rnSB ?_ | refine rnG ?_ | refine rnU ?_ | ((fail_if_success (refine rnKn ?_)); refine rnP ?_ ?_ <;> (intro hq; try (have hq' := hq; simp only [hqs] at hq'))) | refine rkC ?_ | refine rkSB ?_ | refine rkF ?_ | refine rkU ?_ | ((fail_if_success (refine rkKn ?_)); refine rkP ?_ ?_ <;> (intro hq; try (have hq' := hq; simp only [hqs] at hq'))) | refine stp ?_ | refine ifT ?_ | refine ifF ?_ | (refine ifQ ?_ ?_ <;> (try (intro hn))) | (refine ifB ?_ ?_ <;> (intro hq; try (have hq' := hq; simp only [hqs] at hq'))))
    · have e : l = [] := List.eq_nil_of_length_eq_zero (by have := congrArg List.length hn; rwa [List.length_map, List.length_nil] at this)
      subst e
      exact rt1 rfl rfl (.one .nil) rfl
    · exact rt1 rfl rfl finS_p rfl
theorem with_w (l : List Kd) (ex : Bool) (x : Kd) (ex2 : Bool) (hl : l.length ≤ 100000) (hin : ∀ k ∈ l, okB k.1) (hk : okB x.1) (hc : x.2.2.length ≤ 1000000) : PCall Tryz.prog 224 [.p (.sl 10 (l.map kR) ex), .p (.v (.string (strOf x.1))), cV x.2.1 x.2.2 ex2] (.p (.sl 10 ((withK l x.1 x.2).map kR) false)) := by
  refine pcall_of Tryz.func224 rfl (fun w0 F S0 M0 => ?_)
  haveI : PC Tryz.prog 256 [.p (.sl 4 (x.2.2.map eR) ex2)] True (.p (.sl 4 (x.2.2.map eR) false)) := ⟨fun _ => cloneE_w _ _ hc⟩
  obtain ⟨A, hA⟩ : ∃ A, A = idxK (fun e => bLt x.1 e.1) l 0 l.length := ⟨_, rfl⟩
  haveI : PC Tryz.prog 226 [.p (.sl 10 (l.map kR) false), .p (.fnv 257 [.bx [.v (.string (strOf x.1))] 0])] True (.p (.i A)) := ⟨fun _ => by rw [hA]; exact indexFuncK_w _ _ inferInstance (fun e => bLt x.1 e.1) l false (by omega) fun e he => with1_w e x.1 (hin e he) hk⟩
  repeat' (first | refine rnC ?_ | refine rnSB ?_ | refine rnG ?_ | refine rnU ?_ | ((fail_if_success (refine rnKn ?_)); refine rnP ?_ ?_ <;> (intro hq; try (have hq' := hq; simp only [hqs] at hq'))) | refine rkC ?_ | refine rkSB ?_ | refine rkF ?_ | refine rkU ?_ | ((fail_if_success (refine rkKn ?_)); refine rkP ?_ ?_ <;> (intro hq; try (have hq' := hq; simp only [hqs] at hq'))) | refine stp ?_ | refine ifT ?_ | refine ifF ?_ | (refine ifQ ?_ ?_ <;> (try (intro hn))) | (refine ifB ?_ ?_ <;> (intro hq; try (have hq' := hq; simp only [hqs] at hq'))))
  refine aws_loopS [8, 9, 19, 20, 21, 22, 23, 24, 25, 26, 27, 28, 29, 30, 31, 32, 33, 34] [16] (fun (y : Nat × List Kd × Bool) => [(19, .p (.i y.1)), (8, .p (.b y.2.2))]) (fun y => [(16, (2, some (.buf 148 10 (y.2.1.map kR))))]) (fun y => y.1 ≤ l.length ∧ y.2.1 = setK (l.take y.1) x.1 x.2 ++ l.drop y.1 ∧ y.2.2 = hasK (l.take y.1) x.1) (fun y => l.length - y.1) (0, l, false) ⟨Nat.zero_le _, rfl, rfl⟩ (by exact knA) (by exact knA) ?_
  rintro ⟨i, cur, b⟩ β γ ⟨hi, hcur, hb⟩
  dsimp only at hi hcur hb ⊢
  have hcl : cur.length = l.length := by rw [hcur]; exact cur_len l x.1 x.2 hi
  by_cases hil : i < l.length
  · have d1 : decide ((i : Int) < (l.length : Int)) = true := decide_eq_true (by omega)
    have ei : (i : Int).toNat = i := Int.toNat_natCast i
    have hg : cur.getD (i : Int).toNat default = l.getD i default := by rw [ei, hcur]; exact cur_at hil
    have okc : okB (cur.getD (i : Int).toNat default).1 := by rw [hg, getD_at hil]; exact hin _ (List.getElem_mem _)
    have hst := cur_step (k := x.1) (c := x.2) hil
    have hbs := hasK_step (k := x.1) hil
    rw [← hcur] at hst
    rw [← hb] at hbs
    rw [← hg] at hst hbs
    by_cases he : (cur.getD (i : Int).toNat default).1 = x.1
    · have d2 : decide ((cur.getD (i : Int).toNat default).1 = x.1) = true := decide_eq_true he
      rw [if_pos he] at hst
      rw [d2, Bool.or_true] at hbs
      repeat' (first | refine rnC ?_ | refine rnSB ?_ | refine rnG ?_ | refine rnU ?_ | ((fail_if_success (refine rnKn ?_)); refine rnP ?_ ?_ <;> (intro hq; try (have hq' := hq; simp only [hqs] at hq'))) | refine rkC ?_ | refine rkSB ?_ | refine rkF ?_ | refine rkU ?_ | ((fail_if_success (refine rkKn ?_)); refine rkP ?_ ?_ <;> (intro hq; try (have hq' := hq; simp only [hqs] at hq'))) | refine stp ?_ | refine aws_draws [] mixed (by kernel_rfl) ?_ | refine ifT ?_ | refine ifF ?_ | (refine ifQ ?_ ?_ <;> (try (intro hn))) | (refine ifB ?_ ?_ <;> (intro hq; try (have hq' := hq; simp only [hqs] at hq'))))
      refine rn_sto (gd_n rfl rfl) rfl (lop_st_kd (ob := 16) (i := (i : Int).toNat) (c := x.2) rfl inferInstance rfl rfl rfl rfl rfl rfl (by omega)) ?_
      as_aux_lemma =>
        repeat' (first | refine rnC ?_ | refine rnSB ?_ | refine rnG ?_ | refine rnU ?_ | ((fail_if_success (refine rnKn ?_)); refine rnP ?_ ?_ <;> (intro hq; try (have hq' := hq; simp only [hqs] at hq'))) | refine rkC ?_ | refine rkSB ?_ | refine rkF ?_ | refine rkU ?_ | ((fail_if_success (refine rkKn ?_)); refine rkP ?_ ?_ <;> (intro hq; try (have hq' := hq; simp only [hqs] at hq'))) | refine stp ?_ | refine ifT ?_ | refine ifF ?_ | (refine ifQ ?_ ?_ <;> (try (intro hn))) | (refine ifB ?_ ?_ <;> (intro hq; try (have hq' := hq; simp only [hqs] at hq'))))
        exact ⟨(i + 1, cur.set (i : Int).toNat ((cur.getD (i : Int).toNat default).1, x.2), true), _, by dsimp only; omega, ⟨by dsimp only; omega, by dsimp only; rw [hst, ei], hbs.symm⟩, .refl, by exact frA⟩
    · have d2 : decide ((cur.getD (i : Int).toNat default).1 = x.1) = false := decide_eq_false he
      rw [if_neg he] at hst
      rw [d2, Bool.or_false] at hbs
      as_aux_lemma =>
        repeat' (first | refine rnC ?_ | refine rnSB ?_ | refine rnG ?_ | refine rnU ?_ | ((fail_if_success (refine rnKn ?_)); refine rnP ?_ ?_ <;> (intro hq; try (have hq' := hq; simp only [hqs] at hq'))) | refine rkC ?_ | refine rkSB ?_ | refine rkF ?_ | refine rkU ?_ | ((fail_if_success (refine rkKn ?_)); refine rkP ?_ ?_ <;> (intro hq; try (have hq' := hq; simp only [hqs] at hq'))) | refine stp ?_ | refine aws_draws [] mixed (by kernel_rfl) ?_ | refine ifT ?_ | refine ifF ?_ | (refine ifQ ?_ ?_ <;> (try (intro hn))) | (refine ifB ?_ ?_ <;> (intro hq; try (have hq' := hq; simp only [hqs] at hq'))))
        exact ⟨(i + 1, cur, b), _, by dsimp only; omega, ⟨by dsimp only; omega, hst.symm, hbs.symm⟩, .refl, by exact frA⟩
  · have d1 : decide ((i : Int) < (l.length : Int)) = false := decide_eq_false (by omega)
    obtain rfl : i = l.length := by omega
    rw [List.take_length, List.drop_length, List.append_nil] at hcur
    rw [List.take_length] at hb
    unfold withK
    cases b with
    | true =>
      rw [if_pos hb.symm, ← hcur]
      clear hcur hA hin
      as_aux_lemma =>
        repeat' (first | refine rnC ?_ | refine rnSB ?_ | refine rnG ?_ | refine rnU ?_ | ((fail_if_success (refine rnKn ?_)); refine rnP ?_ ?_ <;> (intro hq; try (have hq' := hq; simp only [hqs] at hq'))) | refine rkC ?_ | refine rkSB ?_ | refine rkF ?_ | refine rkU ?_ | ((fail_if_success (refine rkKn ?_)); refine rkP ?_ ?_ <;> (intro hq; try (have hq' := hq; simp only [hqs] at hq'))) | refine stp ?_ | refine aws_draws [] mixed (by kernel_rfl) ?_ | refine ifT ?_ | refine ifF ?_ | (refine ifQ ?_ ?_ <;> (try (intro hn))) | (refine ifB ?_ ?_ <;> (intro hq; try (have hq' := hq; simp only [hqs] at hq'))))
        exact rt1 rfl rfl (.one (finC_map rfl rfl rfl (by omega))) rfl
    | false =>
      rw [if_neg (by rw [← hb]; simp)]
      rw [setK_id hb.symm] at hcur
      subst hcur
      have hin1 : ∀ j, j < cur.length → okB (cur.getD j default).1 := fun j hj => by rw [getD_at hj]; exact hin _ (List.getElem_mem _)
      have ins : ∀ i0 : Nat, i0 ≤ cur.length → OCAt Tryz.prog 258 [.o (.osl 16 1 10 0 cur.length), .p (.i (i0 : Int)), .o (.osl 49 0 10 0 1)] [(16, (2, some (.buf 148 10 (cur.map kR)))), (49, (1, some (.buf 148 10 [kR x])))] [] (.o (.osl 16 2 10 0 (cur.take i0 ++ x :: cur.drop i0).length)) [(16, (3, some (.buf 148 10 ((cur.take i0 ++ x :: cur.drop i0).map kR)))), (49, (1, some (.buf 148 10 [kR x])))] := fun i0 h0 => (insert_o 1 0 cur x i0 h0 (by omega)).two 16 49 (by decide)
      rcases idxK_found (p := fun e => bLt x.1 e.1) (l := cur) cur.length 0 (by omega) with ⟨h1, h2⟩ | ⟨i0, h1, -, h3, h4, h5⟩
      · rw [← hA] at h1
        rw [gt_none fun j hj => h2 j (Nat.zero_le _) hj]
        have hI := ins cur.length (Nat.le_refl _)
        have d2 : decide (A < 0) = true := decide_eq_true (by omega)
        clear hA h2 hin hin1 ins h1
        repeat' (first | refine rnC ?_ | refine rnSB ?_ | refine rnG ?_ | refine rnU ?_ | ((fail_if_success (refine rnKn ?_)); refine rnP ?_ ?_ <;> (intro hq; try (have hq' := hq; simp only [hqs] at hq'))) | refine rkC ?_ | refine rkSB ?_ | refine rkF ?_ | refine rkU ?_ | ((fail_if_success (refine rkKn ?_)); refine rkP ?_ ?_ <;> (intro hq; try (have hq' := hq; simp only [hqs] at hq'))) | refine stp ?_ | refine ifT ?_ | refine ifF ?_ | (refine ifQ ?_ ?_ <;> (try (intro hn))) | (refine ifB ?_ ?_ <;> (intro hq; try (have hq' := hq; simp only [hqs] at hq'))))
        refine rn_any (gd_n rfl rfl) rfl (lop_ocall rfl inferInstance (.cons rfl (.cons rfl (.cons rfl .nil))) hI (by intro p hp; simp only [List.mem_cons, List.not_mem_nil, or_false] at hp; rcases hp with rfl | rfl <;> rfl) (by intro p hp; cases hp) (by intro p hp; simp only [List.mem_cons, List.not_mem_nil, or_false] at hp; rcases hp with rfl | rfl <;> rfl) (by intro p hp; cases hp) rfl) ?_
        as_aux_lemma =>
          repeat' (first | refine rnC ?_ | refine rnSB ?_ | refine rnG ?_ | refine rnU ?_ | ((fail_if_success (refine rnKn ?_)); refine rnP ?_ ?_ <;> (intro hq; try (have hq' := hq; simp only [hqs] at hq'))) | refine rkC ?_ | refine rkSB ?_ | refine rkF ?_ | refine rkU ?_ | ((fail_if_success (refine rkKn ?_)); refine rkP ?_ ?_ <;> (intro hq; try (have hq' := hq; simp only [hqs] at hq'))) | refine stp ?_ | refine ifT ?_ | refine ifF ?_ | (refine ifQ ?_ ?_ <;> (try (intro hn))) | (refine ifB ?_ ?_ <;> (intro hq; try (have hq' := hq; simp only [hqs] at hq'))))
          exact rt1 rfl rfl (.one (finC_map rfl rfl rfl rfl)) rfl
      · rw [← hA] at h1
        rw [gt_is h3 h4 fun j hj => h5 j (Nat.zero_le _) hj]
        have hI := ins i0 (by omega)
        clear hA h4 h5 hin hin1 ins
        subst h1
        have d2 : decide ((i0 : Int) < 0) = false := decide_eq_false (by omega)
        repeat' (first | refine rnC ?_ | refine rnSB ?_ | refine rnG ?_ | refine rnU ?_ | ((fail_if_success (refine rnKn ?_)); refine rnP ?_ ?_ <;> (intro hq; try (have hq' := hq; simp only [hqs] at hq'))) | refine rkC ?_ | refine rkSB ?_ | refine rkF ?_ | refine rkU ?_ | ((fail_if_success (refine rkKn ?_)); refine rkP ?_ ?_ <;> (intro hq; try (have hq' := hq; simp only [hqs] at hq'))) | refine stp ?_ | refine ifT ?_ | refine ifF ?_ | (refine ifQ ?_ ?_ <;> (try (intro hn))) | (refine ifB ?_ ?_ <;> (intro hq; try (have hq' := hq; simp only [hqs] at hq'))))
        refine rn_any (gd_n rfl rfl) rfl (lop_ocall rfl inferInstance (.cons rfl (.cons rfl (.cons rfl .nil))) hI (by intro p hp; simp only [List.mem_cons, List.not_mem_nil, or_false] at hp; rcases hp with rfl | rfl <;> rfl) (by intro p hp; cases hp) (by intro p hp; simp only [List.mem_cons, List.not_mem_nil, or_false] at hp; rcases hp with rfl | rfl <;> rfl) (by intro p hp; cases hp) rfl) ?_
        as_aux_lemma =>
          repeat' (first | refine rnC ?_ | refine rnSB ?_ | refine rnG ?_ | refine rnU ?_ | ((fail_if_success (refine rnKn ?_)); refine rnP ?_ ?_ <;> (intro hq; try (have hq' := hq; simp only [hqs] at hq'))) | refine rkC ?_ | refine rkSB ?_ | refine rkF ?_ | refine rkU ?_ | ((fail_if_success (refine rkKn ?_)); refine rkP ?_ ?_ <;> (intro hq; try (have hq' := hq; simp only [hqs] at hq'))) | refine stp ?_ | refine ifT ?_ | refine ifF ?_ | (refine ifQ ?_ ?_ <;> (try (intro hn))) | (refine ifB ?_ ?_ <;> (intro hq; try (have hq' := hq; simp only [hqs] at hq'))))
          exact rt1 rfl rfl (.one (finC_map rfl rfl rfl rfl)) rfl
end Go.Proofs.YtclcfjejpogdlaaGreat.Wi
namespace Go.Proofs.YtclcfjejpogdlaaGreat.Wi
open Go Go.RowKit Go.Aw Go.Aw.Cart Go.Proofs.YtclcfjejpogdlaaGreat.Ca
set_option linter.unusedVariables false
set_option linter.unusedSimpArgs false
theorem kd_back {k : Kd} (hl : k.1.length ≤ 20) (hr : rightF k.2.1 k.2.2 = true) (hv : vecOk k.2.1) (q : List Nat) : kdS (kdB k ++ q, 0) = (k, (q, 0)) := by
  unfold kdB
  rw [List.append_assoc]
  simp only [kdS, bindS, pureS, text_back (b := k.1) (most := 20) (by omega) (by decide), cart_back (c := k.2) hr hv]
theorem list_back {l : List Kd} (h : KOk l) (hv : ∀ k ∈ l, vecOk k.2.1) (q : List Nat) : listS (listB l ++ q, 0) = (l, (q, 0)) := by
  have hm := many_back (P := kdS) (enc := kdB) (L := l) (fun a ha q => kd_back (h.key a ha) (h.cart a ha) (hv a ha) q) q l.length (Nat.le_refl _)
  unfold listB
  rw [List.append_assoc]
  simp only [listS, bindS, small_back (x := l.length) (most := 2000) (by have := h.few; omega) (by decide), Int.toNat_natCast, hm, List.take_length, List.drop_length, List.flatMap_nil, List.nil_append]
theorem readL_back {l : List Kd} (h : KOk l) (hv : ∀ k ∈ l, vecOk k.2.1) : readL (listB l) = (l, 0) := by
  have := list_back h hv []
  rw [List.append_nil] at this
  unfold readL
  rw [this, if_neg]
  rintro (h1 | h1)
  · exact h1 rfl
  · rw [keys_iff.2 h] at h1; cases h1
/-- the carts of chapter 10's fixed calls -/
def c10 : Crt := ([1, 0, 0, 0, 0, 0, 0, 0], [(5, 1, 1, 2)])
theorem c10_right : rightF c10.1 c10.2 = true := rightF_iff.2 ⟨by decide, by decide, by decide⟩
theorem z10_right : rightF zeroV [] = true := rightF_iff.2 ⟨by decide, by decide, by decide⟩
theorem c10_vec : vecOk c10.1 := ⟨rfl, by decide⟩
theorem w10a : withK [] [98] c10 = [([98], c10)] := rfl
theorem w10b : withK [([98], c10)] [97] (zeroV, []) = [([97], (zeroV, [])), ([98], c10)] := rfl
def l10 : List Kd := [([97], (zeroV, [])), ([98], c10)]
theorem l10_ok : KOk l10 where
  few := by decide
  up := by decide
  key := by decide
  cart := by
    intro e he
    simp only [l10, List.mem_cons, List.not_mem_nil, or_false] at he
    rcases he with rfl | rfl
    · exact z10_right
    · exact c10_right
end Go.Proofs.YtclcfjejpogdlaaGreat.Wi
namespace Go.Aw
open Go Go.RowKit
/-- a contract, handed what says as much -/
theorem PCall.weak {P : Program} {f : FuncId} {args args' : List AV} {r : AV} (h : PCall P f args r) (ha : All2 (fun a b => ∀ X v, AV.holds Mu.none X a v → AV.holds Mu.none X b v) args' args) : PCall P f args' r := fun w S vs hS hv =>
  h w S vs hS ⟨by rw [← ha.1, hv.1], fun i a v hi hvi => by
    have hil : i < args'.length := by rw [ha.1]; exact (List.getElem?_eq_some_iff.1 hi).1
    exact ha.2 i args'[i] a (List.getElem?_eq_getElem hil) hi _ _ (hv.2 i _ v (List.getElem?_eq_getElem hil) hvi)⟩
theorem weak_same {a : AV} : ∀ X v, AV.holds Mu.none X a v → AV.holds Mu.none X a v := fun _ _ h => h
theorem weak_nil {es : Nat} {ex : Bool} : ∀ X v, AV.holds Mu.none X (.p (.v (.slice none 0 0))) v → AV.holds Mu.none X (.p (.sl es [] ex)) v := fun X v h => Ent.nil Mu.none X v h
/-- an aggregate whose last cell is nil -/
theorem weak_last {cs : List AC} {es : Nat} {ex : Bool} : ∀ X v, AV.holds Mu.none X (.a (cs ++ [.p (.v (.slice none 0 0))])) v → AV.holds Mu.none X (.a (cs ++ [.p (.sl es [] ex)])) v := by
  rintro X v ⟨arr, rfl, h⟩
  obtain ⟨u, w, rfl, h1, h2⟩ := h.split_inv
  obtain ⟨y, w, rfl, h3, h4⟩ := h2.cons_inv
  obtain rfl := h4.nil_inv
  refine ⟨_, rfl, h1.append (.cons ?_ .nil)⟩
  obtain ⟨rfl, _⟩ := h3
  exact ⟨none, 0, rfl, Nat.le_refl _, by simp [maxLen], fun _ => rfl, rfl, rfl⟩
end Go.Aw
namespace Go.Proofs.YtclcfjejpogdlaaGreat.Wi
open Go Go.RowKit Go.Aw Go.Aw.Cart Go.Proofs.YtclcfjejpogdlaaGreat.Ca
set_option linter.unusedVariables false
set_option linter.unusedSimpArgs false
set_option maxRecDepth 8000
set_option maxHeartbeats 4000000
open WE
abbrev cA (ex : Bool) : List AC := [.p (.k .u64 1), .p (.k .u64 0), .p (.k .u64 0), .p (.k .u64 0), .p (.k .u64 0), .p (.k .u64 0), .p (.k .u64 0), .p (.k .u64 0), .p (.sl 4 [[.i 5, .i 1, .k .u64 1, .i 2]] ex)]
abbrev cZ : List AC := [.p (.k .u64 0), .p (.k .u64 0), .p (.k .u64 0), .p (.k .u64 0), .p (.k .u64 0), .p (.k .u64 0), .p (.k .u64 0), .p (.k .u64 0), .p (.v (.slice none 0 0))]
theorem ok98 : okB [98] := by intro c hc; simp at hc; omega
theorem ok97 : okB [97] := by intro c hc; simp at hc; omega
theorem kdi10 : ∀ k ∈ l10, KdI k := by
  intro k hk
  simp only [l10, List.mem_cons, List.not_mem_nil, or_false] at hk
  rcases hk with rfl | rfl
  · exact ⟨ok97, by decide, zeroV_ok, by decide⟩
  · exact ⟨ok98, by decide, c10_vec, by decide⟩
theorem l1 (L : List Kd) (hL : L = [([98], c10)]) : PCall Tryz.prog 224 [.p (.v (.slice none 0 0)), .p (.v (.string { data := #[98] })), .a (cA true)] (.p (.sl 10 (L.map kR) false)) := by
  have h := with_w [] false ([98], c10) true (by decide) (fun k hk => by cases hk) ok98 (by decide)
  rw [w10a] at h
  rw [hL]
  exact h.weak (.cons weak_nil (.cons weak_same (.cons weak_same .nil)))
theorem l2 (L L2 : List Kd) (hL : L = [([98], c10)]) (hL2 : L2 = l10) : PCall Tryz.prog 224 [.p (.sl 10 (L.map kR) false), .p (.v (.string { data := #[97] })), .a cZ] (.p (.sl 10 (L2.map kR) false)) := by
  have h := with_w [([98], c10)] false ([97], (zeroV, [])) false (by decide) (fun k hk => by simp only [List.mem_cons, List.not_mem_nil, or_false] at hk; rw [hk]; exact ok98) ok97 (by decide)
  rw [w10b] at h
  rw [hL, hL2]
  exact h.weak (.cons weak_same (.cons weak_same (.cons (weak_last (cs := v8L zeroV)) .nil)))
theorem s1 (L2 : List Kd) (S : List Nat) (hL2 : L2 = l10) (hS : S = listB l10) : PCall Tryz.prog 82 [.p (.sl 10 (L2.map kR) false)] (.tup [.one (.p (.sl 1 (S.map bR) false)), .one (.p (.i 0))]) := by
  rw [hL2, hS]; exact writeAll_ok l10 false (keys_iff.2 l10_ok) kdi10
theorem s2 (L2 : List Kd) (S : List Nat) (hL2 : L2 = l10) (hS : S = listB l10) (hb : okB (listB l10)) (hl : (listB l10).length ≤ 1000) : PCall Tryz.prog 100 [.p (.sl 1 (S.map bR) false)] (.tup [.one (.p (.sl 10 (L2.map kR) false)), .one (.p (.i 0))]) := by
  have h := readAll_w (listB l10) false hb (by omega)
  rw [readL_back l10_ok fun k hk => (kdi10 k hk).vec] at h
  rw [hL2, hS]; exact h
end Go.Proofs.YtclcfjejpogdlaaGreat.Wi
namespace Go.Proofs.YtclcfjejpogdlaaGreat.Wi
open Go Go.RowKit Go.Aw Go.Aw.Cart Go.Proofs.YtclcfjejpogdlaaGreat.Ca
set_option linter.unusedVariables false
set_option linter.unusedSimpArgs false
set_option maxRecDepth 8000
set_option maxHeartbeats 4000000
open WE
end Go.Proofs.YtclcfjejpogdlaaGreat.Wi
