/- the reference's buckets: of what something is known, and where keys stand; buckets: what the fixed calls of alive of 19 come to; buckets: alive of 19; buckets in plain Lean: when they are the same, and how many stand there; buckets, the law BucketSame -/
import Derived.Test.YtlaeldgebecppaaGreatPT27
import Derived.Test.YtlaeldgebecppaaGreatPT32
import Derived.Test.YtlaeldgebecppaaGreatPT38
import Derived.Test.YtlaeldgebecppaaGreatPT28
namespace Go.Proofs.YtlaeldgebecppaaGreat.Wi
open Go Go.RowKit Go.Aw Go.Aw.Sha Go.Aw.Cart Go.Proofs.YtlaeldgebecppaaGreat.Ca Go.Proofs.YtlaeldgebecppaaGreat.Rg Go.Proofs.YtlaeldgebecppaaGreat.Sh
set_option linter.unusedVariables false
set_option linter.unusedSimpArgs false
set_option maxRecDepth 8000
set_option maxHeartbeats 4000000
theorem v8L_at (v : List Int) (q : AC) {i : Nat} (hi : i < 8) : (v8L v ++ [q])[i]? = some (.p (.k .u64 (v.getD i default))) := by
  match i, hi with
  | 0, _ => rfl
  | 1, _ => rfl
  | 2, _ => rfl
  | 3, _ => rfl
  | 4, _ => rfl
  | 5, _ => rfl
  | 6, _ => rfl
  | 7, _ => rfl
/-- a place of a vector in a variable -/
theorem lop_ld_v8 {C : Ctx} {o : Oper} {σ : St} {T : TypeId} {x : Operand} {k : TK} {sz by_ : Nat} {ob g n i : Nat} {ty : TypeId} {v : List Int} {q : AC} (ho : o.op = .load T x) (hT : TI C.P T k sz by_) (hx : σ.look x = .o (.ptr ob g (0 + 0 + i * 1))) (hm : σ.mem ob = (n, some (.box ty (v8L v ++ [q])))) (hn : n = g + 1)
    (hk : k.agg = false) (hs : sz = 1) (hi : i < 8) (hd : dOk C o.dst = true) : LOp C o σ ⟨.p (.k .u64 (v.getD i default)), []⟩ (fun y => y == ob) :=
  lop_load_one (o := o) ho hx hm hn hk hs (by rw [show 0 + 0 + i * 1 = i by omega]; exact v8L_at v q hi) hd
theorem kn_iff {v : List Int} {l : List Ent} (hv : vecOk v) : emptyF (v, l) = true ↔ (∀ j, j < 8 → ¬ 0 < v.getD j default) ∧ l = [] := by
  unfold emptyF sameF
  rw [Bool.and_eq_true, decide_eq_true_iff, decide_eq_true_iff]
  refine and_congr ?_ Iff.rfl
  constructor
  · intro h j hj
    dsimp only at h
    rw [h]
    match j, hj with
    | 0, _ => decide
    | 1, _ => decide
    | 2, _ => decide
    | 3, _ => decide
    | 4, _ => decide
    | 5, _ => decide
    | 6, _ => decide
    | 7, _ => decide
  · intro h
    obtain ⟨h8, hp⟩ := hv
    refine List.ext_getElem (by rw [h8]; rfl) fun j h1 h2 => ?_
    have h3 := h j (by dsimp only at h1; omega)
    have h4 := (hp _ (List.getElem_mem h1)).1
    rw [List.getD_eq_getElem?_getD, List.getElem?_eq_getElem h1] at h3
    have h5 : zeroV[j] = 0 := by
      have h6 : j < 8 := by dsimp only at h1; omega
      match j, h6 with
      | 0, _ => rfl
      | 1, _ => rfl
      | 2, _ => rfl
      | 3, _ => rfl
      | 4, _ => rfl
      | 5, _ => rfl
      | 6, _ => rfl
      | 7, _ => rfl
    rw [h5]
    have h7 : ¬ 0 < v[j] := h3
    have h8 : 0 ≤ v[j] := h4
    show v[j] = 0
    omega
namespace M1
theorem lopC {C : Ctx} {o : Oper} {σ : St} {e : Eff} {ro : Nat → Bool} (h : LOp C o σ e ro := by
    first | (apply gLoad; (focus rfl); apply lop_ld_v8; (focus rfl); (focus exact inferInstance); (focus rfl); (focus rfl); (focus rfl); (focus rfl); (focus rfl); (focus omega); (focus rfl)) | exact B1.lopC | exact Y1.lopC | fail) : LOp C o σ e ro := h
section steps
variable {C : Ctx} {ops : Array Oper} {o : Oper} {rest : List Oper} {K : St → Prop} {σ : St} {e : Eff} {ro : Nat → Bool} {W : List (Nat × Nat)} {i : Nat}
theorem rnC {d : Nat} (hk : RunN C ops rest K (e.app (some d) σ)) (hg : Guard ops σ o true := by first | exact gd_n rfl rfl | exact gd_t rfl rfl rfl rfl | exact gd_t rfl rfl rfl (by assumption)) (hd : o.dst = some d := by rfl) (h : LOp C o σ e ro := by exact lopC) : RunN C ops (o :: rest) K σ := rn_any hg hd h hk
end steps
end M1
open M1
theorem known_w (v : List Int) (l : List Ent) (ex : Bool) (hv : vecOk v) : PCall Tryz.prog 130 [cV v l ex] (.p (.b (!emptyF (v, l)))) := by
  refine pcall_of Tryz.func130 rfl (fun w0 F S0 M0 => ?_)
  repeat' (first | refine rnC ?_ | refine rnSB ?_ | refine rnG ?_ | refine rnU ?_ | ((fail_if_success (refine rnKn ?_)); refine rnP ?_ ?_ <;> (intro hq; try (have hq' := hq; simp only [hqs] at hq'))) | refine rkC ?_ | refine rkSB ?_ | refine rkF ?_ | refine rkU ?_ | ((fail_if_success (refine rkKn ?_)); refine rkP ?_ ?_ <;> (intro hq; try (have hq' := hq; simp only [hqs] at hq'))) | refine stp ?_ | refine ifT ?_ | refine ifF ?_ | (refine ifQ ?_ ?_ <;> (try (intro hn))) | (refine ifB ?_ ?_ <;> (intro hq; try (have hq' := hq; simp only [hqs] at hq'))))
  refine aws_loopS [2, 3, 4, 5, 6, 7, 8, 9, 10, 11, 12] [] (fun (i : Nat) => [(3, .p (.i i))]) (fun _ => []) (fun i => i ≤ 8 ∧ ∀ j, j < i → ¬ 0 < v.getD j default) (fun i => 8 - i) 0 ⟨Nat.zero_le _, fun j hj => absurd hj (Nat.not_lt_zero _)⟩ (by exact knA) (by exact knA) ?_
  rintro i β γ ⟨hi, hx⟩
  by_cases hi8 : i < 8
  · have d1 : decide ((i : Int) < 8) = true := decide_eq_true (by omega)
    have ei : (i : Int).toNat = i := Int.toNat_natCast i
    by_cases hp : 0 < v.getD (i : Int).toNat default
    · have d2 : decide (0 < v.getD (i : Int).toNat default) = true := decide_eq_true hp
      have e : emptyF (v, l) = false := by
        rw [Bool.eq_false_iff]
        intro q
        rw [ei] at hp
        exact ((kn_iff hv).1 q).1 i hi8 hp
      rw [e]
      as_aux_lemma =>
        repeat' (first | refine rnC ?_ | refine rnSB ?_ | refine rnG ?_ | refine rnU ?_ | ((fail_if_success (refine rnKn ?_)); refine rnP ?_ ?_ <;> (intro hq; try (have hq' := hq; simp only [hqs] at hq'))) | refine rkC ?_ | refine rkSB ?_ | refine rkF ?_ | refine rkU ?_ | ((fail_if_success (refine rkKn ?_)); refine rkP ?_ ?_ <;> (intro hq; try (have hq' := hq; simp only [hqs] at hq'))) | refine stp ?_ | refine ifT ?_ | refine ifF ?_ | (refine ifQ ?_ ?_ <;> (try (intro hn))) | (refine ifB ?_ ?_ <;> (intro hq; try (have hq' := hq; simp only [hqs] at hq'))))
        exact rt1 rfl rfl finS_p rfl
    · have d2 : decide (0 < v.getD (i : Int).toNat default) = false := decide_eq_false hp
      rw [ei] at hp
      repeat' (first | refine rnC ?_ | refine rnSB ?_ | refine rnG ?_ | refine rnU ?_ | ((fail_if_success (refine rnKn ?_)); refine rnP ?_ ?_ <;> (intro hq; try (have hq' := hq; simp only [hqs] at hq'))) | refine rkC ?_ | refine rkSB ?_ | refine rkF ?_ | refine rkU ?_ | ((fail_if_success (refine rkKn ?_)); refine rkP ?_ ?_ <;> (intro hq; try (have hq' := hq; simp only [hqs] at hq'))) | refine stp ?_ | refine ifT ?_ | refine ifF ?_ | (refine ifQ ?_ ?_ <;> (try (intro hn))) | (refine ifB ?_ ?_ <;> (intro hq; try (have hq' := hq; simp only [hqs] at hq'))))
      refine ⟨i + 1, _, by omega, ⟨by omega, fun j hj => ?_⟩, .refl, by exact frA⟩
      by_cases q : j = i
      · rw [q]; exact hp
      · exact hx j (by omega)
  · have d1 : decide ((i : Int) < 8) = false := decide_eq_false (by omega)
    have e : (!emptyF (v, l)) = decide (0 < (l.length : Int)) := by
      rw [Bool.eq_iff_iff, decide_eq_true_iff, Bool.not_eq_true']
      constructor
      · intro q
        rcases Nat.eq_zero_or_pos l.length with h | h
        · rw [Bool.eq_false_iff] at q
          exact absurd ((kn_iff hv).2 ⟨fun j hj => hx j (by omega), List.eq_nil_of_length_eq_zero h⟩) q
        · omega
      · intro q
        rw [Bool.eq_false_iff]
        intro h
        rw [((kn_iff hv).1 h).2] at q
        simp at q
    rw [e]
    as_aux_lemma =>
      repeat' (first | refine rnC ?_ | refine rnSB ?_ | refine rnG ?_ | refine rnU ?_ | ((fail_if_success (refine rnKn ?_)); refine rnP ?_ ?_ <;> (intro hq; try (have hq' := hq; simp only [hqs] at hq'))) | refine rkC ?_ | refine rkSB ?_ | refine rkF ?_ | refine rkU ?_ | ((fail_if_success (refine rkKn ?_)); refine rkP ?_ ?_ <;> (intro hq; try (have hq' := hq; simp only [hqs] at hq'))) | refine stp ?_ | refine ifT ?_ | refine ifF ?_ | (refine ifQ ?_ ?_ <;> (try (intro hn))) | (refine ifB ?_ ?_ <;> (intro hq; try (have hq' := hq; simp only [hqs] at hq'))))
      exact rt1 rfl rfl finS_p rfl
/-- where a key stands -/
def plE (r : Bool) (e : Kd) : Int := if (r && (!emptyF e.2 && keyR e.1)) = true then (((sum e.1).getD 0 default / 2 : Nat) : Int) else -1
def plF (l : List Kd) : List Int := l.map (plE (keysF l))
theorem map_take_get {α β : Type} [Inhabited α] {f : α → β} {l : List α} {i : Nat} (h : i < l.length) : (l.take (i + 1)).map f = (l.take i).map f ++ [f (l.getD i default)] := by
  rw [List.take_succ_eq_append_getElem h, List.map_append, List.getD_eq_getElem?_getD, List.getElem?_eq_getElem h]; rfl
theorem places_w (l : List Kd) (ex : Bool) (h : LIn l) : PCall Tryz.prog 58 [.p (.sl 10 (l.map kR) ex)] (.p (.sl 1 ((plF l).map fun n => [PVal.i n]) false)) := by
  refine pcall_of Tryz.func58 rfl (fun w0 F S0 M0 => ?_)
  have hl := h.len
  have c0 := refRight10_w l ex (by omega) h.kd h.few
  have hkey : keysF l = true → ∀ k ∈ l, k.1.length ≤ 20 := fun q => (keys_iff.1 q).key
  unfold plF
  generalize keysF l = B at c0 hkey ⊢
  haveI : PC Tryz.prog 32 [.p (.sl 10 (l.map kR) ex)] True (.p (.b B)) := ⟨fun _ => c0⟩
  obtain ⟨P, hP⟩ : ∃ P, P = l.map (plE B) := ⟨_, rfl⟩
  rw [← hP]
  repeat' (first | refine rnC ?_ | refine rnSB ?_ | refine rnG ?_ | refine rnU ?_ | ((fail_if_success (refine rnKn ?_)); refine rnP ?_ ?_ <;> (intro hq; try (have hq' := hq; simp only [hqs] at hq'))) | refine rkC ?_ | refine rkSB ?_ | refine rkF ?_ | refine rkU ?_ | ((fail_if_success (refine rkKn ?_)); refine rkP ?_ ?_ <;> (intro hq; try (have hq' := hq; simp only [hqs] at hq'))) | refine stp ?_ | refine ifT ?_ | refine ifF ?_ | (refine ifQ ?_ ?_ <;> (try (intro hn))) | (refine ifB ?_ ?_ <;> (intro hq; try (have hq' := hq; simp only [hqs] at hq'))))
  refine aws_says (says_nil (t := 4) (o := 901) (es := 1) (ty := 3) rfl rfl (by decide)) ?_
  refine aws_loopS [4, 5, 6, 7, 10, 11, 12, 13, 14, 15, 16, 17, 18, 19, 20, 21, 22, 23, 24, 25, 26, 27, 28, 29, 30, 31, 32, 33, 34, 35, 36, 37, 38, 39, 40, 41, 42, 43, 44, 45, 46, 47] [901, 7] (fun (x : Nat × Nat × List Int × Nat × Option MO) => [(5, .p (.i x.1)), (4, .o (.osl 901 x.2.1 1 0 x.2.2.1.length))]) (fun x => [(901, (x.2.1 + 1, some (.buf 3 1 (x.2.2.1.map fun n => [PVal.i n])))), (7, (x.2.2.2.1, x.2.2.2.2))]) (fun x => x.1 ≤ l.length ∧ x.2.2.1 = (l.take x.1).map (plE B)) (fun x => l.length - x.1) (0, 0, [], 0, none) ⟨Nat.zero_le _, rfl⟩ (by exact knA) (by exact knA) ?_
  rintro ⟨i, g, out, g7, m7⟩ β γ ⟨hi, ho⟩
  dsimp only at hi ho ⊢
  have hol : out.length ≤ 100000 := by rw [ho, List.length_map, List.length_take]; omega
  by_cases hil : i < l.length
  · have d1 : decide ((i : Int) < (l.length : Int)) = true := decide_eq_true (by omega)
    have ei : (i : Int).toNat = i := Int.toNat_natCast i
    have hs := map_take_get (f := plE B) hil
    rw [← ho, ← ei] at hs
    rw [show ((i : Int).toNat + 1) = i + 1 by rw [ei]] at hs
    have hm : l.getD (i : Int).toNat default ∈ l := by rw [ei, getD_at hil]; exact List.getElem_mem _
    have hk := h.kd _ hm
    have okk := hk.key
    have hkl := fun q => hkey q _ hm
    have ck := known_w (l.getD (i : Int).toNat default).2.1 (l.getD (i : Int).toNat default).2.2 false hk.vec
    have hpl : plE B (l.getD (i : Int).toNat default) = if (B && (!emptyF ((l.getD (i : Int).toNat default).2.1, (l.getD (i : Int).toNat default).2.2) && keyR (l.getD (i : Int).toNat default).1)) = true then (((sum (l.getD (i : Int).toNat default).1).getD 0 default / 2 : Nat) : Int) else -1 := rfl
    rw [hpl] at hs
    clear hpl
    cases B with
    | false =>
      rw [Bool.false_and, if_neg (by simp)] at hs
      clear ck hk okk hkl hm
      as_aux_lemma =>
        repeat' (first | refine rnC ?_ | refine rnSB ?_ | refine rnG ?_ | refine rnU ?_ | ((fail_if_success (refine rnKn ?_)); refine rnP ?_ ?_ <;> (intro hq; try (have hq' := hq; simp only [hqs] at hq'))) | refine rkC ?_ | refine rkSB ?_ | refine rkF ?_ | refine rkU ?_ | ((fail_if_success (refine rkKn ?_)); refine rkP ?_ ?_ <;> (intro hq; try (have hq' := hq; simp only [hqs] at hq'))) | refine stp ?_ | refine ifT ?_ | refine ifF ?_ | (refine ifQ ?_ ?_ <;> (try (intro hn))) | (refine ifB ?_ ?_ <;> (intro hq; try (have hq' := hq; simp only [hqs] at hq'))))
        exact ⟨(i + 1, g + 1, out ++ [(-1 : Int)], _, _), _, by dsimp only; omega, ⟨by dsimp only; omega, hs.symm⟩, .refl, by exact frA⟩
    | true =>
      rw [Bool.true_and] at hs
      have hkl' := hkl rfl
      have cr := refKeyRight_w (l.getD (i : Int).toNat default).1 okk (by omega)
      generalize (!emptyF ((l.getD (i : Int).toNat default).2.1, (l.getD (i : Int).toNat default).2.2)) = K at ck hs
      generalize keyR (l.getD (i : Int).toNat default).1 = R at cr hs
      cases K with
      | false =>
        rw [Bool.false_and, if_neg (by simp)] at hs
        haveI : PC Tryz.prog 130 [cV (l.getD (i : Int).toNat default).2.1 (l.getD (i : Int).toNat default).2.2 false] True (.p (.b false)) := ⟨fun _ => ck⟩
        clear ck hk hkl hm
        as_aux_lemma =>
          repeat' (first | refine rnC ?_ | refine rnSB ?_ | refine rnG ?_ | refine rnU ?_ | ((fail_if_success (refine rnKn ?_)); refine rnP ?_ ?_ <;> (intro hq; try (have hq' := hq; simp only [hqs] at hq'))) | refine rkC ?_ | refine rkSB ?_ | refine rkF ?_ | refine rkU ?_ | ((fail_if_success (refine rkKn ?_)); refine rkP ?_ ?_ <;> (intro hq; try (have hq' := hq; simp only [hqs] at hq'))) | refine stp ?_ | refine ifT ?_ | refine ifF ?_ | (refine ifQ ?_ ?_ <;> (try (intro hn))) | (refine ifB ?_ ?_ <;> (intro hq; try (have hq' := hq; simp only [hqs] at hq'))))
          exact ⟨(i + 1, g + 1, out ++ [(-1 : Int)], _, _), _, by dsimp only; omega, ⟨by dsimp only; omega, hs.symm⟩, .refl, by exact frA⟩
      | true =>
        rw [Bool.true_and] at hs
        haveI : PC Tryz.prog 130 [cV (l.getD (i : Int).toNat default).2.1 (l.getD (i : Int).toNat default).2.2 false] True (.p (.b true)) := ⟨fun _ => ck⟩
        cases R with
        | false =>
          rw [if_neg (by simp)] at hs
          haveI : PC Tryz.prog 126 [.p (.v (.string (strOf (l.getD (i : Int).toNat default).1)))] True (.p (.b false)) := ⟨fun _ => cr⟩
          clear ck cr hk hkl hm
          as_aux_lemma =>
            repeat' (first | refine rnC ?_ | refine rnSB ?_ | refine rnG ?_ | refine rnU ?_ | ((fail_if_success (refine rnKn ?_)); refine rnP ?_ ?_ <;> (intro hq; try (have hq' := hq; simp only [hqs] at hq'))) | refine rkC ?_ | refine rkSB ?_ | refine rkF ?_ | refine rkU ?_ | ((fail_if_success (refine rkKn ?_)); refine rkP ?_ ?_ <;> (intro hq; try (have hq' := hq; simp only [hqs] at hq'))) | refine stp ?_ | refine ifT ?_ | refine ifF ?_ | (refine ifQ ?_ ?_ <;> (try (intro hn))) | (refine ifB ?_ ?_ <;> (intro hq; try (have hq' := hq; simp only [hqs] at hq'))))
            exact ⟨(i + 1, g + 1, out ++ [(-1 : Int)], _, _), _, by dsimp only; omega, ⟨by dsimp only; omega, hs.symm⟩, .refl, by exact frA⟩
        | true =>
          rw [if_pos rfl] at hs
          haveI : PC Tryz.prog 126 [.p (.v (.string (strOf (l.getD (i : Int).toNat default).1)))] True (.p (.b true)) := ⟨fun _ => cr⟩
          have hSl := sum_len (l.getD (i : Int).toNat default).1
          have hSb := getD_ok (sum_okB (l.getD (i : Int).toNat default).1) 0
          haveI : ∀ ex, PC Tryz.prog 131 [bytesN (l.getD (i : Int).toNat default).1 ex] True (.a ((sum (l.getD (i : Int).toNat default).1).map bc)) := fun ex => ⟨fun _ => rsum_c _ ex (by omega) okk⟩
          generalize sum (l.getD (i : Int).toNat default).1 = S at *
          have e : IntKind.i64.wrap ((S.getD (0 : Int).toNat default / 2 % md .u8 : Nat) : Int) = ((S.getD 0 default / 2 : Nat) : Int) := by
            rw [show S.getD (0 : Int).toNat default = S.getD 0 default from rfl, show S.getD 0 default / 2 % md .u8 = S.getD 0 default / 2 from Nat.mod_eq_of_lt (show S.getD 0 default / 2 < 256 by omega)]
            exact IntWalk.i64_in _ (by omega)
          rw [← e] at hs
          clear ck cr hk hkl hm
          as_aux_lemma =>
            repeat' (first | refine rnC ?_ | refine rnSB ?_ | refine rnG ?_ | refine rnU ?_ | ((fail_if_success (refine rnKn ?_)); refine rnP ?_ ?_ <;> (intro hq; try (have hq' := hq; simp only [hqs] at hq'))) | refine rkC ?_ | refine rkSB ?_ | refine rkF ?_ | refine rkU ?_ | ((fail_if_success (refine rkKn ?_)); refine rkP ?_ ?_ <;> (intro hq; try (have hq' := hq; simp only [hqs] at hq'))) | refine stp ?_ | refine ifT ?_ | refine ifF ?_ | (refine ifQ ?_ ?_ <;> (try (intro hn))) | (refine ifB ?_ ?_ <;> (intro hq; try (have hq' := hq; simp only [hqs] at hq'))))
            exact ⟨(i + 1, g + 1, out ++ [(IntKind.i64.wrap ((S.getD (0 : Int).toNat default / 2 % md .u8 : Nat) : Int))], _, _), _, by dsimp only; omega, ⟨by dsimp only; omega, hs.symm⟩, .refl, by exact frA⟩
  · have d1 : decide ((i : Int) < (l.length : Int)) = false := decide_eq_false (by omega)
    obtain rfl : i = l.length := by omega
    rw [List.take_length, ← hP] at ho
    rw [← ho]
    clear ho hP
    as_aux_lemma =>
      repeat' (first | refine rnC ?_ | refine rnSB ?_ | refine rnG ?_ | refine rnU ?_ | ((fail_if_success (refine rnKn ?_)); refine rnP ?_ ?_ <;> (intro hq; try (have hq' := hq; simp only [hqs] at hq'))) | refine rkC ?_ | refine rkSB ?_ | refine rkF ?_ | refine rkU ?_ | ((fail_if_success (refine rkKn ?_)); refine rkP ?_ ?_ <;> (intro hq; try (have hq' := hq; simp only [hqs] at hq'))) | refine stp ?_ | refine ifT ?_ | refine ifF ?_ | (refine ifQ ?_ ?_ <;> (try (intro hn))) | (refine ifB ?_ ?_ <;> (intro hq; try (have hq' := hq; simp only [hqs] at hq'))))
      exact rt1 rfl rfl (.one (finC_map rfl rfl rfl rfl)) rfl
end Go.Proofs.YtlaeldgebecppaaGreat.Wi
namespace Go.Proofs.YtlaeldgebecppaaGreat.Wi
open Go Go.RowKit Go.Aw Go.Aw.Cart Go.Proofs.YtlaeldgebecppaaGreat.Ca Go.Proofs.YtlaeldgebecppaaGreat.Rg
set_option linter.unusedVariables false
set_option linter.unusedSimpArgs false
set_option maxRecDepth 8000
end Go.Proofs.YtlaeldgebecppaaGreat.Wi
namespace Go.Proofs.YtlaeldgebecppaaGreat.Wi
open Go Go.RowKit Go.Aw Go.Aw.Cart Go.Proofs.YtlaeldgebecppaaGreat.Ca Go.Proofs.YtlaeldgebecppaaGreat.Rg
set_option linter.unusedVariables false
set_option linter.unusedSimpArgs false
set_option maxRecDepth 8000
set_option maxHeartbeats 4000000
open B1
end Go.Proofs.YtlaeldgebecppaaGreat.Wi
namespace Go.Proofs.YtlaeldgebecppaaGreat.Wi
open Go Go.RowKit Go.Aw Go.Aw.Cart Go.Proofs.YtlaeldgebecppaaGreat.Ca Go.Proofs.YtlaeldgebecppaaGreat.Rg
set_option linter.unusedVariables false
set_option linter.unusedSimpArgs false
abbrev upK (l : List Kd) : Prop := l.Pairwise fun a b => bLt a.1 b.1 = true
theorem mem_find : ∀ {l : List Kd}, upK l → ∀ {e : Kd}, e ∈ l → findK l e.1 = (e.2, true)
  | [], _, e, he => by cases he
  | a :: l, hu, e, he => by
    rw [findK]
    rcases List.mem_cons.1 he with q | q
    · rw [q, if_pos rfl]
    · have hlt := (List.pairwise_cons.1 hu).1 e q
      rw [if_neg (fun x => by rw [x, bLt_irr] at hlt; cases hlt)]
      exact mem_find (List.pairwise_cons.1 hu).2 q
theorem find_mem : ∀ {l : List Kd} {k : List Nat} {c : Crt}, findK l k = (c, true) → (k, c) ∈ l
  | [], k, c, h => by cases h
  | a :: l, k, c, h => by
    rw [findK] at h
    by_cases q : a.1 = k
    · rw [if_pos q] at h
      obtain rfl := (Prod.mk.inj h).1
      subst q
      exact List.mem_cons_self
    · rw [if_neg q] at h
      exact List.mem_cons_of_mem _ (find_mem h)
theorem mem_iff {l : List Kd} (hu : upK l) {e : Kd} : e ∈ l ↔ findK l e.1 = (e.2, true) := ⟨mem_find hu, fun h => find_mem h⟩
/-! another cart of one key -/
/-! how many stand there -/
end Go.Proofs.YtlaeldgebecppaaGreat.Wi
namespace Go.Proofs.YtlaeldgebecppaaGreat.Wi
open Go Go.RowKit Go.Aw Go.Aw.Cart Go.Proofs.YtlaeldgebecppaaGreat.Ca Go.Proofs.YtlaeldgebecppaaGreat.Rg
set_option linter.unusedVariables false
set_option linter.unusedSimpArgs false
set_option maxRecDepth 8000
set_option maxHeartbeats 4000000
theorem txs_get (l : List Kd) (part : Int) {j : Nat} (hj : j < 16) : (txsF l part).getD j default = listB ((bktsF l part).getD j []) := by
  have h : j < (bktsF l part).length := by rw [bkts_len]; exact hj
  unfold txsF
  rw [List.getD_eq_getElem?_getD, List.getElem?_map, List.getD_eq_getElem?_getD, List.getElem?_eq_getElem h]; rfl
theorem lin_of {l : List Kd} (hg : greatL l = false) (hin : ∀ k ∈ l, KdI k) (hl : l.length ≤ 9223372036854775807) : LIn l := by
  obtain ⟨h1, h2⟩ := greatL_no hg
  exact ⟨by omega, hin, fun k hk => by have := (h2 k hk).2; omega⟩
end Go.Proofs.YtlaeldgebecppaaGreat.Wi
