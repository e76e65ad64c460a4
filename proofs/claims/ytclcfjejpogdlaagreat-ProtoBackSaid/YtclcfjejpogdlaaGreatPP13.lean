/- carts: which may be; carts: what they are worth; carts in plain Lean: entries in order, sets of dots, values: in two ways // carts in plain Lean: which may be, once more; joins // carts in plain Lean: what they are worth; carts, the laws: fixed calls -/
import Derived.Test.YtclcfjejpogdlaaGreatPP12
import Derived.Test.YtclcfjejpogdlaaGreatPP06
namespace Go.Proofs.YtclcfjejpogdlaaGreat.Ca
open Go Go.RowKit Go.Aw Go.Aw.Cart
set_option linter.unusedVariables false
set_option linter.unusedSimpArgs false
set_option maxRecDepth 8000
set_option maxHeartbeats 4000000
open J
def rowOk (v : List Int) (l : List Ent) (i : Nat) : Bool := entF (l.getD i default) && hasF v (dotE (l.getD i default)) && (decide (i = 0) || decide (ordE (l.getD (i - 1) default) (l.getD i default) < 0))
def okTo (v : List Int) (l : List Ent) (k : Nat) : Nat → Bool
  | 0 => true
  | n + 1 => rowOk v l k && okTo v l (k + 1) n
/-- which carts may be -/
def rightF (v : List Int) (l : List Ent) : Bool := decide (l.length ≤ 400) && (okTo v l 0 l.length && decide ((liveF l).length = l.length))
theorem right_w (v : List Int) (l : List Ent) (ex : Bool) (hv : v.length = 8) (h : l.length ≤ 1000000000) : PCall Tryz.prog 203 [cV v l ex] (.p (.b (rightF v l))) := by
  refine pcall_of Tryz.func203 rfl (fun w0 F S0 M0 => ?_)
  unfold rightF
  by_cases h4 : l.length ≤ 400
  · have d0 : decide (400 < (l.length : Int)) = false := decide_eq_false (by omega)
    rw [decide_eq_true h4, Bool.true_and]
    obtain ⟨A, hA⟩ : ∃ A, A = okTo v l 0 l.length := ⟨_, rfl⟩
    rw [← hA]
    repeat' (first | refine rnC ?_ | refine rnSB ?_ | refine rnG ?_ | refine rnU ?_ | ((fail_if_success (refine rnKn ?_)); refine rnP ?_ ?_ <;> (intro hq; try (have hq' := hq; simp only [hqs] at hq'))) | refine rkC ?_ | refine rkSB ?_ | refine rkF ?_ | refine rkU ?_ | ((fail_if_success (refine rkKn ?_)); refine rkP ?_ ?_ <;> (intro hq; try (have hq' := hq; simp only [hqs] at hq'))) | refine stp ?_ | refine aws_draws [] mixed (by kernel_rfl) ?_ | refine ifT ?_ | refine ifF ?_ | (refine ifQ ?_ ?_ <;> (try (intro hn))) | (refine ifB ?_ ?_ <;> (intro hq; try (have hq' := hq; simp only [hqs] at hq'))))
    refine aws_loopS [2, 3, 4, 12, 13, 14, 15, 16, 17, 18, 19, 20, 21, 22, 23, 24, 25, 26, 27, 28, 29, 30, 31, 32, 33, 34, 35, 36, 37, 38, 39, 40, 41, 42, 43] [4] (fun (x : Nat × Option MO) => [(12, .p (.i x.1))]) (fun x => [(4, (x.1, x.2))]) (fun x => x.1 ≤ l.length ∧ A = okTo v l x.1 (l.length - x.1)) (fun x => l.length - x.1) (0, none) ⟨Nat.zero_le _, hA⟩ (by exact knA) (by exact knA) ?_
    rintro ⟨i, c4⟩ β γ ⟨hi, hx⟩
    simp only at hi hx
    dsimp only
    by_cases hil : i < l.length
    · have hlt : decide ((i : Int) < (l.length : Int)) = true := decide_eq_true (by omega)
      rw [show l.length - i = (l.length - (i + 1)) + 1 by omega, okTo, rowOk] at hx
      have ei : (i : Int).toNat = i := Int.toNat_natCast i
      have ep : ((i : Int) - 1).toNat = i - 1 := by omega
      cases he : entF (l.getD (i : Int).toNat default) with
      | false =>
        have he' : (!entF (l.getD (i : Int).toNat default)) = true := by rw [he]; rfl
        rw [ei] at he
        rw [he, Bool.false_and, Bool.false_and, Bool.false_and] at hx
        rw [hx]
        as_aux_lemma =>
          repeat' (first | refine rnC ?_ | refine rnSB ?_ | refine rnG ?_ | refine rnU ?_ | ((fail_if_success (refine rnKn ?_)); refine rnP ?_ ?_ <;> (intro hq; try (have hq' := hq; simp only [hqs] at hq'))) | refine rkC ?_ | refine rkSB ?_ | refine rkF ?_ | refine rkU ?_ | ((fail_if_success (refine rkKn ?_)); refine rkP ?_ ?_ <;> (intro hq; try (have hq' := hq; simp only [hqs] at hq'))) | refine stp ?_ | refine aws_draws [] mixed (by kernel_rfl) ?_ | refine ifT ?_ | refine ifF ?_ | (refine ifQ ?_ ?_ <;> (try (intro hn))) | (refine ifB ?_ ?_ <;> (intro hq; try (have hq' := hq; simp only [hqs] at hq'))))
          exact rt1 rfl rfl finS_p rfl
      | true =>
        have he' : (!entF (l.getD (i : Int).toNat default)) = false := by rw [he]; rfl
        rw [ei] at he
        cases hh : hasF v (dotE (l.getD (i : Int).toNat default)) with
        | false =>
          have hh' : (!hasF v (dotE (l.getD (i : Int).toNat default))) = true := by rw [hh]; rfl
          rw [ei] at hh
          rw [hh, Bool.and_false, Bool.false_and, Bool.false_and] at hx
          rw [hx]
          as_aux_lemma =>
            repeat' (first | refine rnC ?_ | refine rnSB ?_ | refine rnG ?_ | refine rnU ?_ | ((fail_if_success (refine rnKn ?_)); refine rnP ?_ ?_ <;> (intro hq; try (have hq' := hq; simp only [hqs] at hq'))) | refine rkC ?_ | refine rkSB ?_ | refine rkF ?_ | refine rkU ?_ | ((fail_if_success (refine rkKn ?_)); refine rkP ?_ ?_ <;> (intro hq; try (have hq' := hq; simp only [hqs] at hq'))) | refine stp ?_ | refine aws_draws [] mixed (by kernel_rfl) ?_ | refine ifT ?_ | refine ifF ?_ | (refine ifQ ?_ ?_ <;> (try (intro hn))) | (refine ifB ?_ ?_ <;> (intro hq; try (have hq' := hq; simp only [hqs] at hq'))))
            exact rt1 rfl rfl finS_p rfl
        | true =>
          have hh' : (!hasF v (dotE (l.getD (i : Int).toNat default))) = false := by rw [hh]; rfl
          rw [ei] at hh
          rw [he, hh, Bool.true_and, Bool.true_and] at hx
          by_cases h0 : i = 0
          · have d3 : decide (0 < (i : Int)) = false := decide_eq_false (by omega)
            rw [decide_eq_true h0, Bool.true_or, Bool.true_and] at hx
            as_aux_lemma =>
              repeat' (first | refine rnC ?_ | refine rnSB ?_ | refine rnG ?_ | refine rnU ?_ | ((fail_if_success (refine rnKn ?_)); refine rnP ?_ ?_ <;> (intro hq; try (have hq' := hq; simp only [hqs] at hq'))) | refine rkC ?_ | refine rkSB ?_ | refine rkF ?_ | refine rkU ?_ | ((fail_if_success (refine rkKn ?_)); refine rkP ?_ ?_ <;> (intro hq; try (have hq' := hq; simp only [hqs] at hq'))) | refine stp ?_ | refine aws_draws [] mixed (by kernel_rfl) ?_ | refine ifT ?_ | refine ifF ?_ | (refine ifQ ?_ ?_ <;> (try (intro hn))) | (refine ifB ?_ ?_ <;> (intro hq; try (have hq' := hq; simp only [hqs] at hq'))))
              exact ⟨(i + 1, some (.box 289 (eL (l.getD (i : Int).toNat default)))), _, by dsimp only; omega, ⟨by dsimp only; omega, by dsimp only; exact hx⟩, .refl, by exact frA⟩
          · have d3 : decide (0 < (i : Int)) = true := decide_eq_true (by omega)
            rw [decide_eq_false h0, Bool.false_or] at hx
            by_cases ho : ordE (l.getD ((i : Int) - 1).toNat default) (l.getD (i : Int).toNat default) < 0
            · have d4 : decide (0 ≤ ordE (l.getD ((i : Int) - 1).toNat default) (l.getD (i : Int).toNat default)) = false := decide_eq_false (by omega)
              rw [ei, ep] at ho
              rw [decide_eq_true ho, Bool.true_and] at hx
              as_aux_lemma =>
                repeat' (first | refine rnC ?_ | refine rnSB ?_ | refine rnG ?_ | refine rnU ?_ | ((fail_if_success (refine rnKn ?_)); refine rnP ?_ ?_ <;> (intro hq; try (have hq' := hq; simp only [hqs] at hq'))) | refine rkC ?_ | refine rkSB ?_ | refine rkF ?_ | refine rkU ?_ | ((fail_if_success (refine rkKn ?_)); refine rkP ?_ ?_ <;> (intro hq; try (have hq' := hq; simp only [hqs] at hq'))) | refine stp ?_ | refine aws_draws [] mixed (by kernel_rfl) ?_ | refine ifT ?_ | refine ifF ?_ | (refine ifQ ?_ ?_ <;> (try (intro hn))) | (refine ifB ?_ ?_ <;> (intro hq; try (have hq' := hq; simp only [hqs] at hq'))))
                exact ⟨(i + 1, some (.box 289 (eL (l.getD (i : Int).toNat default)))), _, by dsimp only; omega, ⟨by dsimp only; omega, by dsimp only; exact hx⟩, .refl, by exact frA⟩
            · have d4 : decide (0 ≤ ordE (l.getD ((i : Int) - 1).toNat default) (l.getD (i : Int).toNat default)) = true := decide_eq_true (by omega)
              rw [ei, ep] at ho
              rw [decide_eq_false ho, Bool.false_and] at hx
              rw [hx]
              as_aux_lemma =>
                repeat' (first | refine rnC ?_ | refine rnSB ?_ | refine rnG ?_ | refine rnU ?_ | ((fail_if_success (refine rnKn ?_)); refine rnP ?_ ?_ <;> (intro hq; try (have hq' := hq; simp only [hqs] at hq'))) | refine rkC ?_ | refine rkSB ?_ | refine rkF ?_ | refine rkU ?_ | ((fail_if_success (refine rkKn ?_)); refine rkP ?_ ?_ <;> (intro hq; try (have hq' := hq; simp only [hqs] at hq'))) | refine stp ?_ | refine aws_draws [] mixed (by kernel_rfl) ?_ | refine ifT ?_ | refine ifF ?_ | (refine ifQ ?_ ?_ <;> (try (intro hn))) | (refine ifB ?_ ?_ <;> (intro hq; try (have hq' := hq; simp only [hqs] at hq'))))
                exact rt1 rfl rfl finS_p rfl
    · have hlt : decide ((i : Int) < (l.length : Int)) = false := decide_eq_false (by omega)
      rw [show l.length - i = 0 by omega, okTo] at hx
      rw [hx]
      as_aux_lemma =>
        repeat' (first | refine rnC ?_ | refine rnSB ?_ | refine rnG ?_ | refine rnU ?_ | ((fail_if_success (refine rnKn ?_)); refine rnP ?_ ?_ <;> (intro hq; try (have hq' := hq; simp only [hqs] at hq'))) | refine rkC ?_ | refine rkSB ?_ | refine rkF ?_ | refine rkU ?_ | ((fail_if_success (refine rkKn ?_)); refine rkP ?_ ?_ <;> (intro hq; try (have hq' := hq; simp only [hqs] at hq'))) | refine stp ?_ | refine aws_draws [] mixed (by kernel_rfl) ?_ | refine ifT ?_ | refine ifF ?_ | (refine ifQ ?_ ?_ <;> (try (intro hn))) | (refine ifB ?_ ?_ <;> (intro hq; try (have hq' := hq; simp only [hqs] at hq'))))
        refine rt1 rfl rfl finS_p (rb ?_)
        rw [Bool.true_and]
        exact decide_eq_decide.2 (by omega)
  · have d0 : decide (400 < (l.length : Int)) = true := decide_eq_true (by omega)
    rw [decide_eq_false h4, Bool.false_and]
    as_aux_lemma =>
      repeat' (first | refine rnC ?_ | refine rnSB ?_ | refine rnG ?_ | refine rnU ?_ | ((fail_if_success (refine rnKn ?_)); refine rnP ?_ ?_ <;> (intro hq; try (have hq' := hq; simp only [hqs] at hq'))) | refine rkC ?_ | refine rkSB ?_ | refine rkF ?_ | refine rkU ?_ | ((fail_if_success (refine rkKn ?_)); refine rkP ?_ ?_ <;> (intro hq; try (have hq' := hq; simp only [hqs] at hq'))) | refine stp ?_ | refine aws_draws [] mixed (by kernel_rfl) ?_ | refine ifT ?_ | refine ifF ?_ | (refine ifQ ?_ ?_ <;> (try (intro hn))) | (refine ifB ?_ ?_ <;> (intro hq; try (have hq' := hq; simp only [hqs] at hq'))))
      exact rt1 rfl rfl finS_p rfl
end Go.Proofs.YtclcfjejpogdlaaGreat.Ca
namespace Go.Proofs.YtclcfjejpogdlaaGreat.Ca
open Go Go.RowKit Go.Aw Go.Aw.Cart
set_option linter.unusedVariables false
set_option linter.unusedSimpArgs false
set_option maxRecDepth 8000
set_option maxHeartbeats 4000000
open J
end Go.Proofs.YtclcfjejpogdlaaGreat.Ca
namespace Go.Proofs.YtclcfjejpogdlaaGreat.Ca
open Go Go.RowKit Go.Aw Go.Aw.Cart Go.Aw.Ord Go.Sort
set_option linter.unusedVariables false
set_option linter.unusedSimpArgs false
theorem ltE_ir (a : Ent) : ¬ ltE a a := by unfold ltE; omega
theorem ltE_tr (a b c : Ent) : ltE a b → ltE b c → ltE a c := by unfold ltE; omega
theorem ltE_as (a b : Ent) : ltE a b → ¬ ltE b a := by unfold ltE; omega
theorem ltE_nt (a b c : Ent) : ¬ ltE a b → ¬ ltE b c → ¬ ltE a c := by unfold ltE; omega
theorem ltE_tot (a b : Ent) (h : ¬ ltE a b) (k : ¬ ltE b a) : a = b := totE a b (by rw [ltE_of]; exact decide_eq_false h) (by rw [ltE_of]; exact decide_eq_false k)
theorem ltD_ir (a : Dot) : ¬ ltD a a := by unfold ltD; omega
theorem ltD_tr (a b c : Dot) : ltD a b → ltD b c → ltD a c := by unfold ltD; omega
theorem ltD_as (a b : Dot) : ltD a b → ¬ ltD b a := by unfold ltD; omega
theorem ltD_nt (a b c : Dot) : ¬ ltD a b → ¬ ltD b c → ¬ ltD a c := by unfold ltD; omega
theorem ltD_tot (a b : Dot) (h : ¬ ltD a b) (k : ¬ ltD b a) : a = b := totD a b (by rw [ltD_of]; exact decide_eq_false h) (by rw [ltD_of]; exact decide_eq_false k)
theorem sortE_perm (l : List Ent) : (sortE l).Perm l := List.mergeSort_perm ..
theorem sortD_perm (l : List Dot) : (sortD l).Perm l := List.mergeSort_perm ..
theorem sortE_up (l : List Ent) : upI ltE (sortE l) := by
  have h := List.pairwise_mergeSort (le := fun x y => !(ltOf ordE) y x) (fun a b c h k => ?_) (fun a b => ?_) l
  · refine List.Pairwise.imp (fun {a b} h => ?_) h
    simpa [ltE_of] using h
  · simp only [ltE_of, Bool.not_eq_true', decide_eq_false_iff_not] at h k ⊢
    exact ltE_nt _ _ _ k h
  · simp only [ltE_of, Bool.or_eq_true, Bool.not_eq_true', decide_eq_false_iff_not]
    by_cases k : ltE b a
    · exact .inr (ltE_as _ _ k)
    · exact .inl k
theorem sortD_up (l : List Dot) : upI ltD (sortD l) := by
  have h := List.pairwise_mergeSort (le := fun x y => !(ltOf cmpD) y x) (fun a b c h k => ?_) (fun a b => ?_) l
  · refine List.Pairwise.imp (fun {a b} h => ?_) h
    simpa [ltD_of] using h
  · simp only [ltD_of, Bool.not_eq_true', decide_eq_false_iff_not] at h k ⊢
    exact ltD_nt _ _ _ k h
  · simp only [ltD_of, Bool.or_eq_true, Bool.not_eq_true', decide_eq_false_iff_not]
    by_cases k : ltD b a
    · exact .inr (ltD_as _ _ k)
    · exact .inl k
theorem sortE_mem {l : List Ent} {e : Ent} : e ∈ sortE l ↔ e ∈ l := (sortE_perm l).mem_iff
/-- dots as a set: all of them, and rising -/
def setF (l : List Dot) : List Dot := comp (sortD (l.filter dotF))
theorem setF_up (l : List Dot) : (setF l).Pairwise ltD := comp_up (fun x y h => by
  by_cases k : ltD x y
  · exact .inr k
  · exact .inl (ltD_tot _ _ k h)) ltD_tr (sortD_up _)
theorem setF_len (l : List Dot) : (setF l).length ≤ l.length := Nat.le_trans (comp_len _) (by rw [sortD_len]; exact List.length_filter_le _ _)
theorem dotsOf_is (l : List Dot) : G.dotsOf l = (setF l).take 2000 := rfl
/-- as many as they are: no one twice -/
theorem setF_full {l : List Dot} (hd : ∀ d ∈ l, dotF d = true) : (setF l).length = l.length ↔ l.Nodup := by
  have e : l.filter dotF = l := List.filter_eq_self.2 hd
  rw [setF, e]
  constructor
  · intro h
    have h1 := comp_sub.eq_of_length (l₁ := comp (sortD l)) (by rw [h, sortD_len])
    have h2 := setF_up l
    rw [setF, e, h1] at h2
    refine (sortD_perm l).nodup_iff.1 (h2.imp fun {a b} k q => ?_)
    subst q; exact ltD_ir _ k
  · intro h
    rw [comp_id ((sortD_perm l).nodup_iff.2 h), sortD_len]
/-! which carts may be -/
theorem okTo_iff {v : List Int} {l : List Ent} : ∀ (n k : Nat), okTo v l k n = true ↔ ∀ i, k ≤ i → i < k + n → rowOk v l i = true
  | 0, k => ⟨fun _ i h1 h2 => by omega, fun _ => rfl⟩
  | n + 1, k => by
    rw [okTo, Bool.and_eq_true, okTo_iff n (k + 1)]
    refine ⟨fun h i h1 h2 => ?_, fun h => ⟨h k (by omega) (by omega), fun i h1 h2 => h i (by omega) (by omega)⟩⟩
    by_cases e : i = k
    · rw [e]; exact h.1
    · exact h.2 i (by omega) (by omega)
theorem has_dot {v : List Int} {d : Dot} (h : hasF v d = true) : dotF d = true := by
  unfold hasF at h; simp only [Bool.and_eq_true] at h; exact h.1
theorem row_ent {v : List Int} {l : List Ent} {i : Nat} (h : rowOk v l i = true) : entF (l.getD i default) = true ∧ hasF v (dotE (l.getD i default)) = true ∧ (0 < i → ltE (l.getD (i - 1) default) (l.getD i default)) := by
  unfold rowOk at h
  simp only [Bool.and_eq_true, Bool.or_eq_true, decide_eq_true_eq] at h
  exact ⟨h.1.1, h.1.2, fun k => ordE_lt.1 (h.2.resolve_left (by omega))⟩
theorem getD_mem {α : Type} [Inhabited α] {l : List α} {x : α} (h : x ∈ l) : ∃ i, i < l.length ∧ l.getD i default = x := by
  obtain ⟨i, hi, e⟩ := List.getElem_of_mem h
  exact ⟨i, hi, by rw [List.getD_eq_getElem?_getD, List.getElem?_eq_getElem hi]; exact e⟩
theorem live_set (l : List Ent) (h : l.length ≤ 2000) : liveF l = setF (l.map dotE) := by
  rw [liveF, dotsOf_is, List.take_of_length_le]
  exact Nat.le_trans (setF_len _) (by rw [List.length_map]; exact h)
theorem rightF_iff {v : List Int} {l : List Ent} : rightF v l = true ↔ l.length ≤ 400 ∧ (∀ i, i < l.length → rowOk v l i = true) ∧ (l.map dotE).Nodup := by
  unfold rightF
  simp only [Bool.and_eq_true, decide_eq_true_eq, okTo_iff]
  refine and_congr_right fun h4 => ?_
  constructor
  · rintro ⟨h1, h2⟩
    have h1' : ∀ i, i < l.length → rowOk v l i = true := fun i hi => h1 i (Nat.zero_le _) (by omega)
    refine ⟨h1', (setF_full fun d hd => ?_).1 (by rw [← live_set l (by omega), h2, List.length_map])⟩
    obtain ⟨e, he, rfl⟩ := List.mem_map.1 hd
    obtain ⟨i, hi, rfl⟩ := getD_mem he
    exact has_dot (row_ent (h1' i hi)).2.1
  · rintro ⟨h1, h2⟩
    refine ⟨fun i _ hi => h1 i (by omega), ?_⟩
    rw [live_set l (by omega), (setF_full fun d hd => ?_).2 h2, List.length_map]
    obtain ⟨e, he, rfl⟩ := List.mem_map.1 hd
    obtain ⟨i, hi, rfl⟩ := getD_mem he
    exact has_dot (row_ent (h1 i hi)).2.1
/-! values -/
end Go.Proofs.YtclcfjejpogdlaaGreat.Ca
namespace Go.Proofs.YtclcfjejpogdlaaGreat.Ca
open Go Go.RowKit Go.Aw Go.Aw.Cart Go.Aw.Ord Go.Sort
set_option linter.unusedVariables false
set_option linter.unusedSimpArgs false
theorem getD_at {α : Type} [Inhabited α] {l : List α} {i : Nat} (h : i < l.length) : l.getD i default = l[i] := by
  rw [List.getD_eq_getElem?_getD, List.getElem?_eq_getElem h]; rfl
theorem adj_up {l : List Ent} (h : ∀ i, 0 < i → i < l.length → ltE (l.getD (i - 1) default) (l.getD i default)) : l.Pairwise ltE := by
  have key : ∀ j, j < l.length → ∀ i, i < j → ltE (l.getD i default) (l.getD j default) := by
    intro j
    induction j with
    | zero => intro _ i hi; exact absurd hi (Nat.not_lt_zero _)
    | succ j ih =>
      intro hj i hi
      have h1 := h (j + 1) (Nat.succ_pos _) hj
      rw [Nat.add_sub_cancel] at h1
      by_cases e : i = j
      · rw [e]; exact h1
      · exact ltE_tr _ _ _ (ih (by omega) i (by omega)) h1
  refine List.pairwise_iff_getElem.2 fun i j hi hj hij => ?_
  have := key j hj i hij
  rwa [getD_at hi, getD_at hj] at this
theorem up_adj {l : List Ent} (h : l.Pairwise ltE) {i : Nat} (h0 : 0 < i) (hi : i < l.length) : ltE (l.getD (i - 1) default) (l.getD i default) := by
  have := List.pairwise_iff_getElem.1 h (i - 1) i (by omega) hi (by omega)
  rwa [getD_at hi, getD_at (show i - 1 < l.length by omega)]
/-- of things that are unlike, images are so just if no two have one -/
theorem nodup_map {α β : Type} {f : α → β} : ∀ {l : List α}, l.Nodup → ((l.map f).Nodup ↔ ∀ x ∈ l, ∀ y ∈ l, f x = f y → x = y)
  | [], _ => by simp
  | a :: l, h => by
    obtain ⟨h1, h2⟩ := List.nodup_cons.1 h
    rw [List.map_cons, List.nodup_cons, nodup_map h2]
    constructor
    · rintro ⟨k1, k2⟩ x hx y hy e
      rcases List.mem_cons.1 hx with q | q <;> rcases List.mem_cons.1 hy with r | r
      · rw [q, r]
      · exact absurd (List.mem_map.2 ⟨y, r, by rw [← e, q]⟩) k1
      · exact absurd (List.mem_map.2 ⟨x, q, by rw [e, r]⟩) k1
      · exact k2 x q y r e
    · intro k
      refine ⟨fun q => ?_, fun x hx y hy => k x (List.mem_cons_of_mem _ hx) y (List.mem_cons_of_mem _ hy)⟩
      obtain ⟨y, hy, e⟩ := List.mem_map.1 q
      rw [k y (List.mem_cons_of_mem _ hy) a List.mem_cons_self e] at hy
      exact h1 hy
theorem up_nodup {l : List Ent} (h : l.Pairwise ltE) : l.Nodup := h.imp fun {a b} k e => by subst e; exact ltE_ir _ k
/-- a cart that may be -/
structure Ok (v : List Int) (l : List Ent) : Prop where
  few : l.length ≤ 400
  up : l.Pairwise ltE
  ent : ∀ e ∈ l, entF e = true
  has : ∀ e ∈ l, hasF v (dotE e) = true
  one : ∀ e ∈ l, ∀ f ∈ l, dotE e = dotE f → e = f
theorem ok_iff {v : List Int} {l : List Ent} : rightF v l = true ↔ Ok v l := by
  rw [rightF_iff]
  constructor
  · rintro ⟨h1, h2, h3⟩
    have hu : l.Pairwise ltE := adj_up fun i h0 hi => (row_ent (h2 i hi)).2.2 h0
    refine ⟨h1, hu, fun e he => ?_, fun e he => ?_, (nodup_map (up_nodup hu)).1 h3⟩
    · obtain ⟨i, hi, rfl⟩ := getD_mem he; exact (row_ent (h2 i hi)).1
    · obtain ⟨i, hi, rfl⟩ := getD_mem he; exact (row_ent (h2 i hi)).2.1
  · intro h
    refine ⟨h.few, fun i hi => ?_, (nodup_map (up_nodup h.up)).2 h.one⟩
    have hm : l.getD i default ∈ l := by rw [getD_at hi]; exact List.getElem_mem _
    unfold rowOk
    simp only [Bool.and_eq_true, Bool.or_eq_true, decide_eq_true_eq]
    refine ⟨⟨h.ent _ hm, h.has _ hm⟩, ?_⟩
    by_cases h0 : i = 0
    · exact .inl h0
    · exact .inr (ordE_lt.2 (up_adj h.up (by omega) hi))
theorem Ok.upI {v : List Int} {l : List Ent} (h : Ok v l) : upI ltE l := h.up.imp fun {a b} k => ltE_as _ _ k
theorem sortE_sup {l : List Ent} (h : l.Nodup) : (sortE l).Pairwise ltE := by
  have h1 : (sortE l).Pairwise fun a b => a ≠ b := (sortE_perm l).nodup_iff.2 h
  refine List.Pairwise.imp (fun {a b} (k : ¬ ltE b a ∧ a ≠ b) => ?_) ((sortE_up l).and h1)
  by_cases q : ltE a b
  · exact q
  · exact absurd (ltE_tot _ _ q k.1) k.2
/-! joins -/
abbrev Crt := List Int × List Ent
def staysF (a b : Crt) (both : Bool) : List Ent := a.2.filter fun e => (both && decide (e ∈ b.2)) || !hasF b.1 (dotE e)
def clashF (a b : Crt) : Bool := a.2.any fun e => b.2.any fun f => decide (e ≠ f) && decide (dotE e = dotE f)
def maxV (a b : List Int) : List Int := List.zipWith (fun x y => if x < y then y else x) a b
def zeroV : List Int := [0, 0, 0, 0, 0, 0, 0, 0]
def bothF (a b : Crt) : List Ent := staysF a b true ++ staysF b a false
/-- the join of two carts, and the error -/
def twoF (a b : Crt) : Crt × Int :=
  if rightF a.1 a.2 = false ∨ rightF b.1 b.2 = false then ((zeroV, []), 3) else
  if clashF a b = true then ((zeroV, []), 14) else
  if 400 < (bothF a b).length then ((zeroV, []), 5) else
  ((maxV a.1 b.1, sortE (bothF a b)), 0)
theorem both_mem {a b : Crt} {e : Ent} : e ∈ bothF a b ↔ (e ∈ a.2 ∧ (e ∈ b.2 ∨ hasF b.1 (dotE e) = false)) ∨ (e ∈ b.2 ∧ hasF a.1 (dotE e) = false) := by
  unfold bothF staysF
  simp [List.mem_append, List.mem_filter]
theorem clash_of {a b : Crt} (h : ∀ e ∈ a.2, ∀ f ∈ b.2, dotE e = dotE f → e = f) : clashF a b = false := by
  unfold clashF
  rw [List.any_eq_false]
  intro e he
  rw [Bool.not_eq_true, List.any_eq_false]
  intro f hf
  simp only [Bool.not_eq_true, Bool.and_eq_false_iff, decide_eq_false_iff_not]
  by_cases k : dotE e = dotE f
  · exact .inl fun q => q (h e he f hf k)
  · exact .inr k
theorem maxV_len {a b : List Int} (ha : a.length = 8) (hb : b.length = 8) : (maxV a b).length = 8 := by simp [maxV, ha, hb]
theorem maxV_get {a b : List Int} (ha : a.length = 8) (hb : b.length = 8) {i : Nat} (hi : i < 8) : (maxV a b).getD i default = if a.getD i default < b.getD i default then b.getD i default else a.getD i default := by
  rw [getD_at (by rw [maxV_len ha hb]; exact hi), getD_at (by omega), getD_at (by omega)]
  simp [maxV]
theorem getF_max {a b : List Int} (ha : a.length = 8) (hb : b.length = 8) (n : Int) : getF (maxV a b) n = if getF a n < getF b n then getF b n else getF a n := by
  unfold getF
  by_cases h : 1 ≤ n ∧ n ≤ 8
  · rw [if_pos h, if_pos h, if_pos h, maxV_get ha hb (by omega)]
  · rw [if_neg h, if_neg h, if_neg h]; rfl
theorem has_max {a b : List Int} (ha : a.length = 8) (hb : b.length = 8) (d : Dot) : hasF (maxV a b) d = (hasF a d || hasF b d) := by
  unfold hasF
  rw [getF_max ha hb]
  cases dotF d with
  | false => rfl
  | true =>
    simp only [Bool.true_and]
    rw [Bool.eq_iff_iff, Bool.or_eq_true, decide_eq_true_eq, decide_eq_true_eq, decide_eq_true_eq]
    split <;> omega
/-- carts that have no dot in unlike entries: of them all the join is there -/
structure Two (a b : Crt) : Prop where
  la : a.1.length = 8
  lb : b.1.length = 8
  oa : Ok a.1 a.2
  ob : Ok b.1 b.2
  nc : ∀ e ∈ a.2, ∀ f ∈ b.2, dotE e = dotE f → e = f
  few : (bothF a b).length ≤ 400
theorem bothF_nodup {a b : Crt} (oa : Ok a.1 a.2) (ob : Ok b.1 b.2) : (bothF a b).Nodup := by
  unfold bothF
  refine List.nodup_append.2 ⟨(up_nodup oa.up).sublist List.filter_sublist, (up_nodup ob.up).sublist List.filter_sublist, fun x hx y hy e => ?_⟩
  subst e
  unfold staysF at hx hy
  have h1 := (List.mem_filter.1 hx).1
  have h2 := (List.mem_filter.1 hy).2
  rw [Bool.false_and, Bool.false_or, oa.has x h1] at h2
  exact absurd h2 (by simp)
theorem Two.is {a b : Crt} (h : Two a b) : twoF a b = ((maxV a.1 b.1, sortE (bothF a b)), 0) := by
  unfold twoF
  rw [ok_iff.2 h.oa, ok_iff.2 h.ob, if_neg (by simp), if_neg (by rw [clash_of h.nc]; simp), if_neg (by have := h.few; omega)]
theorem Two.mem {a b : Crt} (h : Two a b) {e : Ent} : e ∈ (twoF a b).1.2 ↔ (e ∈ a.2 ∧ (e ∈ b.2 ∨ hasF b.1 (dotE e) = false)) ∨ (e ∈ b.2 ∧ hasF a.1 (dotE e) = false) := by
  rw [h.is, sortE_mem, both_mem]
theorem Two.vec {a b : Crt} (h : Two a b) : (twoF a b).1.1 = maxV a.1 b.1 := by rw [h.is]
theorem Two.len {a b : Crt} (h : Two a b) : (twoF a b).1.1.length = 8 := by rw [h.vec]; exact maxV_len h.la h.lb
theorem Two.sub {a b : Crt} (h : Two a b) {e : Ent} (he : e ∈ (twoF a b).1.2) : e ∈ a.2 ∨ e ∈ b.2 := by
  rcases h.mem.1 he with k | k
  · exact .inl k.1
  · exact .inr k.1
theorem Two.ok {a b : Crt} (h : Two a b) : Ok (twoF a b).1.1 (twoF a b).1.2 := by
  have hs := @Two.sub a b h
  have hv := h.vec
  refine ⟨?_, ?_, fun e he => ?_, fun e he => ?_, fun e he f hf hd => ?_⟩
  · rw [h.is]; show (sortE _).length ≤ 400; rw [sortE_len]; exact h.few
  · rw [h.is]; exact sortE_sup (bothF_nodup h.oa h.ob)
  · exact (hs he).elim (h.oa.ent e) (h.ob.ent e)
  · rw [hv, has_max h.la h.lb, Bool.or_eq_true]
    exact (hs he).elim (fun k => .inl (h.oa.has e k)) (fun k => .inr (h.ob.has e k))
  · rcases hs he with k | k <;> rcases hs hf with q | q
    · exact h.oa.one e k f q hd
    · exact h.nc e k f q hd
    · exact (h.nc f q e k hd.symm).symm
    · exact h.ob.one e k f q hd
end Go.Proofs.YtclcfjejpogdlaaGreat.Ca
namespace Go.Proofs.YtclcfjejpogdlaaGreat.Ca
open Go Go.RowKit Go.Aw Go.Aw.Cart Go.Aw.Ord Go.Sort
set_option linter.unusedVariables false
set_option linter.unusedSimpArgs false
/-! the items, and their lines -/
/-! each entry counts for one item -/
/-! the order does not matter -/
end Go.Proofs.YtclcfjejpogdlaaGreat.Ca
namespace Go.Proofs.YtclcfjejpogdlaaGreat.Ca
open Go Go.RowKit Go.Aw Go.Aw.Cart Go.Aw.Ord Go.Sort
set_option linter.unusedVariables false
set_option linter.unusedSimpArgs false
set_option maxRecDepth 8000
set_option maxHeartbeats 4000000
theorem great_w (v : List Int) (l : List Ent) (ex : Bool) : PCall Tryz.prog 77 [cV v l ex] (.p (.b (decide (60 < (l.length : Int))))) := by
  refine pcall_of Tryz.func77 rfl (fun w0 F S0 M0 => ?_)
  repeat' (first | refine rnY ?_ | refine rnSQ ?_ | refine rnG ?_ | refine rnU ?_ | ((fail_if_success (refine rnKn ?_)); refine rnP ?_ ?_ <;> (intro hq; try (have hq' := hq; simp only [hqs] at hq'))) | refine rkY ?_ | refine rkSQ ?_ | refine rkF ?_ | refine rkU ?_ | ((fail_if_success (refine rkKn ?_)); refine rkP ?_ ?_ <;> (intro hq; try (have hq' := hq; simp only [hqs] at hq'))) | refine stp ?_ | refine aws_draws [] mixed (by kernel_rfl) ?_ | refine ifT ?_ | refine ifF ?_ | (refine ifQ ?_ ?_ <;> (try (intro hn))) | (refine ifB ?_ ?_ <;> (intro hq; try (have hq' := hq; simp only [hqs] at hq'))))
  exact rt1 rfl rfl finS_p rfl
instance {v : List Int} {l : List Ent} {ex : Bool} : PC Tryz.prog 77 [cV v l ex] True (.p (.b (decide (60 < (l.length : Int))))) := ⟨fun _ => great_w v l ex⟩
namespace A
end A
open A
end Go.Proofs.YtclcfjejpogdlaaGreat.Ca
