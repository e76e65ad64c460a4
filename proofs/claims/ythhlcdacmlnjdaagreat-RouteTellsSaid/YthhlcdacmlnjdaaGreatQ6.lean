/- keys: which may be, their points, parts and leaves; keys: the reference's; routes: numbers looked through, and without some; routes: the reference: the ring, the list of a key -/
import Derived.Test.YthhlcdacmlnjdaaGreatQ1
import Derived.Test.YthhlcdacmlnjdaaGreatQ5
import Derived.Test.YthhlcdacmlnjdaaGreatKw
namespace Go.Proofs.YthhlcdacmlnjdaaGreat.Rg
open Go Go.RowKit Go.Aw Go.Aw.Sha Go.Aw.Cart Go.Aw.Ord Go.Sort Go.Proofs.YthhlcdacmlnjdaaGreat.Ca Go.Proofs.YthhlcdacmlnjdaaGreat.Sh
set_option linter.unusedVariables false
set_option linter.unusedSimpArgs false
set_option maxRecDepth 8000
set_option maxHeartbeats 4000000
attribute [local irreducible] sum
abbrev strV (k : List Nat) : AV := .p (.v (.string (strOf k)))
def byteOk (c : Nat) : Bool := decide ((97 ≤ c ∧ c ≤ 122) ∨ (48 ≤ c ∧ c ≤ 57) ∨ c = 45)
def keyR (k : List Nat) : Bool := decide ((1 ≤ k.length ∧ k.length ≤ 20) ∧ ∀ c ∈ k, byteOk c = true)
def partF (k : List Nat) : Nat := pointF k / 2305843009213693952
def leafF (k : List Nat) : Nat := pointF k / 144115188075855872 % 16
theorem point_lt (k : List Nat) : pointF k < 18446744073709551616 := pv_fit (sum_okB k) (Nat.le_refl 8)
theorem part_lt (k : List Nat) : partF k < 8 := by have := point_lt k; unfold partF; omega
theorem part_top (k : List Nat) : (sum k).getD 0 default / 32 = partF k := by
  unfold partF pointF
  have h := fun j => getD_ok (sum_okB k) j
  have h0 := h 0; have h1 := h 1; have h2 := h 2; have h3 := h 3; have h4 := h 4; have h5 := h 5; have h6 := h 6; have h7 := h 7
  simp only [pv]
  omega
theorem all_get {k : List Nat} : (∀ c ∈ k, byteOk c = true) ↔ ∀ j, j < k.length → byteOk (k.getD j default) = true := by
  constructor
  · intro h j hj
    exact h _ (by rw [getD_at hj]; exact List.getElem_mem _)
  · intro h c hc
    obtain ⟨j, hj, rfl⟩ := getD_mem hc
    exact h j hj
namespace Y1
theorem lopC {C : Ctx} {o : Oper} {σ : St} {e : Eff} {ro : Nat → Bool} (h : LOp C o σ e ro := by
    first
      | (apply lop_len_sb; (focus rfl); (focus exact inferInstance); (focus rfl); (focus rfl))
      | (apply lop_ix_sb; (focus rfl); (focus exact inferInstance); (focus rfl); (focus assumption); (focus rfl); (focus omega); (focus omega); (focus rfl))
      | exact P6.lopC
      | fail) : LOp C o σ e ro := h
section steps
variable {C : Ctx} {ops : Array Oper} {o : Oper} {rest : List Oper} {K : St → Prop} {σ : St} {e : Eff} {ro : Nat → Bool} {W : List (Nat × Nat)} {i : Nat}
theorem rnC {d : Nat} (hk : RunN C ops rest K (e.app (some d) σ)) (hg : Guard ops σ o true := by first | exact gd_n rfl rfl | exact gd_t rfl rfl rfl rfl | exact gd_t rfl rfl rfl (by assumption)) (hd : o.dst = some d := by rfl) (h : LOp C o σ e ro := by exact lopC) : RunN C ops (o :: rest) K σ := rn_any hg hd h hk
theorem rkC {d : Nat} (hk : RunK C ops W (i + 1) rest K (e.app (some d) σ)) (hg : Guard ops σ o true := by first | exact gd_n rfl rfl | exact gd_t rfl rfl rfl rfl | exact gd_t rfl rfl rfl (by assumption)) (hd' : o.dst = some d := by rfl) (hd : dOk C o.dst = true := by rfl) (h : LOp C o σ e ro := by exact lopC)
    (hro : ∀ x, ro x = true → okObj ops W i x = true := by first | exact fun _ => ro_none | exact ro_one rfl | exact ro_one (by kernel_rfl) | exact ro_kIn (by decide)) (hob : ∀ p ∈ e.obj, (i, p.1) ∈ W := by first | exact ob_none | exact ob_one (by decide) | decide) : RunK C ops W i (o :: rest) K σ := rk_wr hg hd' hd h hro hob hk
end steps
end Y1
open Y1
theorem isByte_w (c : Nat) : PCall Tryz.prog 42 [.p (.k .u8 (c : Int))] (.p (.b (byteOk c))) := by
  refine pcall_of Tryz.func42 rfl (fun w0 F S0 M0 => ?_)
  unfold byteOk
  as_aux_lemma =>
    repeat' (first
        | refine rnC ?_
        | refine rnSB ?_
        | refine rnG ?_
        | refine rnU ?_
        | ((fail_if_success (refine rnKn ?_)); refine rnP ?_ ?_ <;> (intro hq; try (have hq' := hq; simp only [hqs] at hq')))
        | refine rkC ?_
        | refine rkSB ?_
        | refine rkF ?_
        | refine rkU ?_
        | ((fail_if_success (refine rkKn ?_)); refine rkP ?_ ?_ <;> (intro hq; try (have hq' := hq; simp only [hqs] at hq')))
        | refine stp ?_
        | refine aws_draws [] mixed (by kernel_rfl) ?_
        | refine ifT ?_
        | refine ifF ?_
        | (refine ifQ ?_ ?_ <;> (try (intro hn)))
        | (refine ifB ?_ ?_ <;> (intro hq; try (have hq' := hq; simp only [hqs] at hq'))))
    all_goals refine rt1 rfl rfl finS_p (rb ?_)
    all_goals first | exact decide_eq_decide.2 (by omega) | exact decide_eq_true (by omega) | exact decide_eq_false (by omega)
instance isByte_i {c : Nat} : PC Tryz.prog 42 [.p (.k .u8 (c : Int))] True (.p (.b (byteOk c))) := ⟨fun _ => isByte_w c⟩
theorem keyRightL_w (k : List Nat) (hk : okB k) (hl : k.length ≤ 9223372036854775807) : PCall Tryz.prog 24 [strV k] (.p (.b (keyR k))) := by
  refine pcall_of Tryz.func24 rfl (fun w0 F S0 M0 => ?_)
  unfold keyR
  rw [decide_eq_decide.2 (and_congr Iff.rfl all_get)]
  repeat' (first
      | refine rnC ?_
      | refine rnSB ?_
      | refine rnG ?_
      | refine rnU ?_
      | ((fail_if_success (refine rnKn ?_)); refine rnP ?_ ?_ <;> (intro hq; try (have hq' := hq; simp only [hqs] at hq')))
      | refine rkC ?_
      | refine rkSB ?_
      | refine rkF ?_
      | refine rkU ?_
      | ((fail_if_success (refine rkKn ?_)); refine rkP ?_ ?_ <;> (intro hq; try (have hq' := hq; simp only [hqs] at hq')))
      | refine stp ?_
      | refine ifT ?_
      | refine ifF ?_
      | (refine ifQ ?_ ?_ <;> (try (intro hn)))
      | (refine ifB ?_ ?_ <;> (intro hq; try (have hq' := hq; simp only [hqs] at hq'))))
  refine aws_loopS [2, 3, 6, 7, 8, 9, 10, 11, 12, 13, 14, 15, 16, 17, 18] [] (fun (i : Nat) => [(6, .p (.i i))]) (fun _ => []) (fun i => i ≤ k.length ∧ i ≤ 20 ∧ ∀ j, j < i → byteOk (k.getD j default) = true) (fun i => k.length - i) 0 ⟨Nat.zero_le _, Nat.zero_le _, fun j hj => absurd hj (Nat.not_lt_zero _)⟩ (by exact knA) (by exact knA) ?_
  rintro i β γ ⟨hi, hi2, hx⟩
  by_cases hil : i < k.length
  · have d1 : decide ((i : Int) < (k.length : Int)) = true := decide_eq_true (by omega)
    have ei : (i : Int).toNat = i := Int.toNat_natCast i
    by_cases h20 : 20 ≤ i
    · have d2 : decide (20 ≤ (i : Int)) = true := decide_eq_true (by omega)
      rw [decide_eq_false (fun q => by omega)]
      as_aux_lemma =>
        repeat' (first
            | refine rnC ?_
            | refine rnSB ?_
            | refine rnG ?_
            | refine rnU ?_
            | ((fail_if_success (refine rnKn ?_)); refine rnP ?_ ?_ <;> (intro hq; try (have hq' := hq; simp only [hqs] at hq')))
            | refine rkC ?_
            | refine rkSB ?_
            | refine rkF ?_
            | refine rkU ?_
            | ((fail_if_success (refine rkKn ?_)); refine rkP ?_ ?_ <;> (intro hq; try (have hq' := hq; simp only [hqs] at hq')))
            | refine stp ?_
            | refine ifT ?_
            | refine ifF ?_
            | (refine ifQ ?_ ?_ <;> (try (intro hn)))
            | (refine ifB ?_ ?_ <;> (intro hq; try (have hq' := hq; simp only [hqs] at hq'))))
        exact rt1 rfl rfl finS_p rfl
    · have d2 : decide (20 ≤ (i : Int)) = false := decide_eq_false (by omega)
      cases hb : byteOk (k.getD (i : Int).toNat default) with
      | true =>
        have d3 : (!byteOk (k.getD (i : Int).toNat default)) = false := by rw [hb]; rfl
        rw [ei] at hb
        repeat' (first
            | refine rnC ?_
            | refine rnSB ?_
            | refine rnG ?_
            | refine rnU ?_
            | ((fail_if_success (refine rnKn ?_)); refine rnP ?_ ?_ <;> (intro hq; try (have hq' := hq; simp only [hqs] at hq')))
            | refine rkC ?_
            | refine rkSB ?_
            | refine rkF ?_
            | refine rkU ?_
            | ((fail_if_success (refine rkKn ?_)); refine rkP ?_ ?_ <;> (intro hq; try (have hq' := hq; simp only [hqs] at hq')))
            | refine stp ?_
            | refine ifT ?_
            | refine ifF ?_
            | (refine ifQ ?_ ?_ <;> (try (intro hn)))
            | (refine ifB ?_ ?_ <;> (intro hq; try (have hq' := hq; simp only [hqs] at hq'))))
        refine ⟨i + 1, _, by omega, ⟨by omega, by omega, fun j hj => ?_⟩, .refl, by exact frA⟩
        by_cases e : j = i
        · rw [e]; exact hb
        · exact hx j (by omega)
      | false =>
        have d3 : (!byteOk (k.getD (i : Int).toNat default)) = true := by rw [hb]; rfl
        rw [ei] at hb
        rw [decide_eq_false (fun q => by have := q.2 i hil; rw [hb] at this; cases this)]
        as_aux_lemma =>
          repeat' (first
              | refine rnC ?_
              | refine rnSB ?_
              | refine rnG ?_
              | refine rnU ?_
              | ((fail_if_success (refine rnKn ?_)); refine rnP ?_ ?_ <;> (intro hq; try (have hq' := hq; simp only [hqs] at hq')))
              | refine rkC ?_
              | refine rkSB ?_
              | refine rkF ?_
              | refine rkU ?_
              | ((fail_if_success (refine rkKn ?_)); refine rkP ?_ ?_ <;> (intro hq; try (have hq' := hq; simp only [hqs] at hq')))
              | refine stp ?_
              | refine ifT ?_
              | refine ifF ?_
              | (refine ifQ ?_ ?_ <;> (try (intro hn)))
              | (refine ifB ?_ ?_ <;> (intro hq; try (have hq' := hq; simp only [hqs] at hq'))))
          exact rt1 rfl rfl finS_p rfl
  · have d1 : decide ((i : Int) < (k.length : Int)) = false := decide_eq_false (by omega)
    rw [decide_eq_decide.2 (show ((1 ≤ k.length ∧ k.length ≤ 20) ∧ ∀ j, j < k.length → byteOk (k.getD j default) = true) ↔ 0 < (k.length : Int) from ⟨fun q => by omega, fun q => ⟨by omega, fun j hj => hx j (by omega)⟩⟩)]
    as_aux_lemma =>
      repeat' (first
          | refine rnC ?_
          | refine rnSB ?_
          | refine rnG ?_
          | refine rnU ?_
          | ((fail_if_success (refine rnKn ?_)); refine rnP ?_ ?_ <;> (intro hq; try (have hq' := hq; simp only [hqs] at hq')))
          | refine rkC ?_
          | refine rkSB ?_
          | refine rkF ?_
          | refine rkU ?_
          | ((fail_if_success (refine rkKn ?_)); refine rkP ?_ ?_ <;> (intro hq; try (have hq' := hq; simp only [hqs] at hq')))
          | refine stp ?_
          | refine ifT ?_
          | refine ifF ?_
          | (refine ifQ ?_ ?_ <;> (try (intro hn)))
          | (refine ifB ?_ ?_ <;> (intro hq; try (have hq' := hq; simp only [hqs] at hq'))))
      exact rt1 rfl rfl finS_p rfl
theorem keyRight_w (k : List Nat) (hk : okB k) (hl : k.length ≤ 1000000) : PCall Tryz.prog 24 [strV k] (.p (.b (keyR k))) := keyRightL_w k hk (by omega)
instance keyRight_i {k : List Nat} : PC Tryz.prog 24 [strV k] (okB k ∧ k.length ≤ 1000000) (.p (.b (keyR k))) := ⟨fun h => keyRight_w k h.1 h.2⟩
theorem keyPoint_w (k : List Nat) (hk : okB k) (hl : k.length ≤ 1000000) : PCall Tryz.prog 57 [strV k] (.p (.k .u64 (pointF k : Int))) := by
  refine pcall_of Tryz.func57 rfl (fun w0 F S0 M0 => ?_)
  haveI : ∀ ex, PC Tryz.prog 64 [bytesN k ex] True (.p (.k .u64 (pointF k : Int))) := fun ex => ⟨fun _ => shaPoint_w k ex (by omega)⟩
  as_aux_lemma =>
    repeat' (first
        | refine rnC ?_
        | refine rnSB ?_
        | refine rnG ?_
        | refine rnU ?_
        | ((fail_if_success (refine rnKn ?_)); refine rnP ?_ ?_ <;> (intro hq; try (have hq' := hq; simp only [hqs] at hq')))
        | refine rkC ?_
        | refine rkSB ?_
        | refine rkF ?_
        | refine rkU ?_
        | ((fail_if_success (refine rkKn ?_)); refine rkP ?_ ?_ <;> (intro hq; try (have hq' := hq; simp only [hqs] at hq')))
        | refine stp ?_
        | refine ifT ?_
        | refine ifF ?_
        | (refine ifQ ?_ ?_ <;> (try (intro hn)))
        | (refine ifB ?_ ?_ <;> (intro hq; try (have hq' := hq; simp only [hqs] at hq'))))
    exact rt1 rfl rfl finS_p rfl
instance keyPoint_i {k : List Nat} : PC Tryz.prog 57 [strV k] (okB k ∧ k.length ≤ 1000000) (.p (.k .u64 (pointF k : Int))) := ⟨fun h => keyPoint_w k h.1 h.2⟩
theorem keyAt_w (k : List Nat) (hk : okB k) (hl : k.length ≤ 1000000) : PCall Tryz.prog 48 [strV k] (.tup [.one (.p (.i (partF k : Int))), .one (.p (.i (leafF k : Int)))]) := by
  refine pcall_of Tryz.func48 rfl (fun w0 F S0 M0 => ?_)
  have hp := point_lt k
  unfold partF leafF
  obtain ⟨p, hP⟩ : ∃ p, p = pointF k := ⟨_, rfl⟩
  haveI : PC Tryz.prog 57 [strV k] True (.p (.k .u64 (p : Int))) := ⟨fun _ => by rw [hP]; exact keyPoint_w k hk hl⟩
  rw [← hP] at hp ⊢
  have e1 : IntKind.i64.wrap ((p / 2 ^ (61 : Int).toNat : Nat) : Int) = ((p / 2305843009213693952 : Nat) : Int) := by
    rw [show p / 2 ^ (61 : Int).toNat = p / 2305843009213693952 from rfl]
    exact IntWalk.i64_in _ (by omega)
  have e2 : IntKind.i64.wrap ((p / 2 ^ (57 : Int).toNat % md .u64 &&& 15 % md .u64 : Nat) : Int) = ((p / 144115188075855872 % 16 : Nat) : Int) := by
    have h1 : p / 2 ^ (57 : Int).toNat % md .u64 = p / 144115188075855872 := Nat.mod_eq_of_lt (show p / 144115188075855872 < 18446744073709551616 by omega)
    have h2 : 15 % md .u64 = 2 ^ 4 - 1 := rfl
    rw [h1, h2, Nat.and_two_pow_sub_one_eq_mod]
    exact IntWalk.i64_in _ (by omega)
  rw [← e1, ← e2]
  as_aux_lemma =>
    repeat' (first
        | refine rnC ?_
        | refine rnSB ?_
        | refine rnG ?_
        | refine rnU ?_
        | ((fail_if_success (refine rnKn ?_)); refine rnP ?_ ?_ <;> (intro hq; try (have hq' := hq; simp only [hqs] at hq')))
        | refine rkC ?_
        | refine rkSB ?_
        | refine rkF ?_
        | refine rkU ?_
        | ((fail_if_success (refine rkKn ?_)); refine rkP ?_ ?_ <;> (intro hq; try (have hq' := hq; simp only [hqs] at hq')))
        | refine stp ?_
        | refine ifT ?_
        | refine ifF ?_
        | (refine ifQ ?_ ?_ <;> (try (intro hn)))
        | (refine ifB ?_ ?_ <;> (intro hq; try (have hq' := hq; simp only [hqs] at hq'))))
    exact rt2 rfl rfl finS_p rfl finS_p rfl
instance keyAt_i {k : List Nat} : PC Tryz.prog 48 [strV k] (okB k ∧ k.length ≤ 1000000) (.tup [.one (.p (.i (partF k : Int))), .one (.p (.i (leafF k : Int)))]) := ⟨fun h => keyAt_w k h.1 h.2⟩
theorem keyPart_w (k : List Nat) (hk : okB k) (hl : k.length ≤ 1000000) : PCall Tryz.prog 28 [strV k] (.p (.i (partF k : Int))) := by
  refine pcall_of Tryz.func28 rfl (fun w0 F S0 M0 => ?_)
  as_aux_lemma =>
    repeat' (first
        | refine rnC ?_
        | refine rnSB ?_
        | refine rnG ?_
        | refine rnU ?_
        | ((fail_if_success (refine rnKn ?_)); refine rnP ?_ ?_ <;> (intro hq; try (have hq' := hq; simp only [hqs] at hq')))
        | refine rkC ?_
        | refine rkSB ?_
        | refine rkF ?_
        | refine rkU ?_
        | ((fail_if_success (refine rkKn ?_)); refine rkP ?_ ?_ <;> (intro hq; try (have hq' := hq; simp only [hqs] at hq')))
        | refine stp ?_
        | refine ifT ?_
        | refine ifF ?_
        | (refine ifQ ?_ ?_ <;> (try (intro hn)))
        | (refine ifB ?_ ?_ <;> (intro hq; try (have hq' := hq; simp only [hqs] at hq'))))
    exact rt1 rfl rfl finS_p rfl
instance keyPart_i {k : List Nat} : PC Tryz.prog 28 [strV k] (okB k ∧ k.length ≤ 1000000) (.p (.i (partF k : Int))) := ⟨fun h => keyPart_w k h.1 h.2⟩
end Go.Proofs.YthhlcdacmlnjdaaGreat.Rg
namespace Go.Proofs.YthhlcdacmlnjdaaGreat.Rg
open Go Go.RowKit Go.Aw Go.Aw.Sha Go.Aw.Cart Go.Aw.Ord Go.Sort Go.Proofs.YthhlcdacmlnjdaaGreat.Ca Go.Proofs.YthhlcdacmlnjdaaGreat.Sh
set_option linter.unusedVariables false
set_option linter.unusedSimpArgs false
set_option maxRecDepth 8000
set_option maxHeartbeats 4000000
attribute [local irreducible] sum
open Y1
/-! the reference's -/
theorem refKeyRight_w (k : List Nat) (hk : okB k) (hl : k.length ≤ 1000000) : PCall Tryz.prog 35 [strV k] (.p (.b (keyR k))) := by
  refine pcall_of Tryz.func35 rfl (fun w0 F S0 M0 => ?_)
  unfold keyR
  rw [decide_eq_decide.2 (and_congr Iff.rfl all_get)]
  by_cases h1 : k.length < 1
  · have d1 : decide ((k.length : Int) < 1) = true := decide_eq_true (by omega)
    rw [decide_eq_false (fun q => by omega)]
    as_aux_lemma =>
      repeat' (first
          | refine rnC ?_
          | refine rnSB ?_
          | refine rnG ?_
          | refine rnU ?_
          | ((fail_if_success (refine rnKn ?_)); refine rnP ?_ ?_ <;> (intro hq; try (have hq' := hq; simp only [hqs] at hq')))
          | refine rkC ?_
          | refine rkSB ?_
          | refine rkF ?_
          | refine rkU ?_
          | ((fail_if_success (refine rkKn ?_)); refine rkP ?_ ?_ <;> (intro hq; try (have hq' := hq; simp only [hqs] at hq')))
          | refine stp ?_
          | refine ifT ?_
          | refine ifF ?_
          | (refine ifQ ?_ ?_ <;> (try (intro hn)))
          | (refine ifB ?_ ?_ <;> (intro hq; try (have hq' := hq; simp only [hqs] at hq'))))
      exact rt1 rfl rfl finS_p rfl
  have d1 : decide ((k.length : Int) < 1) = false := decide_eq_false (by omega)
  by_cases h2 : 20 < k.length
  · have d2 : decide (20 < (k.length : Int)) = true := decide_eq_true (by omega)
    rw [decide_eq_false (fun q => by omega)]
    as_aux_lemma =>
      repeat' (first
          | refine rnC ?_
          | refine rnSB ?_
          | refine rnG ?_
          | refine rnU ?_
          | ((fail_if_success (refine rnKn ?_)); refine rnP ?_ ?_ <;> (intro hq; try (have hq' := hq; simp only [hqs] at hq')))
          | refine rkC ?_
          | refine rkSB ?_
          | refine rkF ?_
          | refine rkU ?_
          | ((fail_if_success (refine rkKn ?_)); refine rkP ?_ ?_ <;> (intro hq; try (have hq' := hq; simp only [hqs] at hq')))
          | refine stp ?_
          | refine ifT ?_
          | refine ifF ?_
          | (refine ifQ ?_ ?_ <;> (try (intro hn)))
          | (refine ifB ?_ ?_ <;> (intro hq; try (have hq' := hq; simp only [hqs] at hq'))))
      exact rt1 rfl rfl finS_p rfl
  have d2 : decide (20 < (k.length : Int)) = false := decide_eq_false (by omega)
  repeat' (first
      | refine rnC ?_
      | refine rnSB ?_
      | refine rnG ?_
      | refine rnU ?_
      | ((fail_if_success (refine rnKn ?_)); refine rnP ?_ ?_ <;> (intro hq; try (have hq' := hq; simp only [hqs] at hq')))
      | refine rkC ?_
      | refine rkSB ?_
      | refine rkF ?_
      | refine rkU ?_
      | ((fail_if_success (refine rkKn ?_)); refine rkP ?_ ?_ <;> (intro hq; try (have hq' := hq; simp only [hqs] at hq')))
      | refine stp ?_
      | refine ifT ?_
      | refine ifF ?_
      | (refine ifQ ?_ ?_ <;> (try (intro hn)))
      | (refine ifB ?_ ?_ <;> (intro hq; try (have hq' := hq; simp only [hqs] at hq'))))
  refine aws_loopS [2, 3, 4, 13, 14, 15, 16, 17, 18, 19, 20, 21, 22, 23, 24, 25, 26, 27, 28, 29, 30, 31, 32, 33, 34, 35, 36, 37, 38, 39, 40] [] (fun (i : Nat) => [(3, .p (.i i))]) (fun _ => []) (fun i => i ≤ k.length ∧ ∀ j, j < i → byteOk (k.getD j default) = true) (fun i => k.length - i) 0 ⟨Nat.zero_le _, fun j hj => absurd hj (Nat.not_lt_zero _)⟩ (by exact knA) (by exact knA) ?_
  rintro i β γ ⟨hi, hx⟩
  by_cases hil : i < k.length
  · have d3 : decide ((i : Int) < (k.length : Int)) = true := decide_eq_true (by omega)
    have ei : (i : Int).toNat = i := Int.toNat_natCast i
    obtain ⟨c, hc⟩ : ∃ c, c = k.getD (i : Int).toNat default := ⟨_, rfl⟩
    have hcb : byteOk c = decide ((97 ≤ c ∧ c ≤ 122) ∨ (48 ≤ c ∧ c ≤ 57) ∨ c = 45) := rfl
    have hci : k.getD i default = c := by rw [hc, ei]
    have next : byteOk c = true → ∀ j, j < i + 1 → byteOk (k.getD j default) = true := fun q j hj => by
      by_cases e : j = i
      · rw [e, hci]; exact q
      · exact hx j (by omega)
    have bad : byteOk c = false → decide ((1 ≤ k.length ∧ k.length ≤ 20) ∧ ∀ j, j < k.length → byteOk (k.getD j default) = true) = false := fun q => decide_eq_false (fun z => by have := z.2 i hil; rw [hci, q] at this; cases this)
    rw [hcb] at next bad
    clear hcb hci
    as_aux_lemma =>
      repeat' (first
          | refine rnC ?_
          | refine rnSB ?_
          | refine rnG ?_
          | refine rnU ?_
          | ((fail_if_success (refine rnKn ?_)); refine rnP ?_ ?_ <;> (intro hq; try (have hq' := hq; simp only [hqs] at hq')))
          | refine rkC ?_
          | refine rkSB ?_
          | refine rkF ?_
          | refine rkU ?_
          | ((fail_if_success (refine rkKn ?_)); refine rkP ?_ ?_ <;> (intro hq; try (have hq' := hq; simp only [hqs] at hq')))
          | refine stp ?_
          | refine aws_draws [] mixed (by kernel_rfl) ?_
          | refine ifT ?_
          | refine ifF ?_
          | (refine ifQ ?_ ?_ <;> (try (intro hn)))
          | (refine ifB ?_ ?_ <;> (intro hq; try (have hq' := hq; simp only [hqs] at hq'))))
      all_goals first
        | exact ⟨i + 1, _, by omega, ⟨by omega, next (decide_eq_true (by omega))⟩, .refl, by exact frA⟩
        | (rw [bad (decide_eq_false (by omega))]; exact rt1 rfl rfl finS_p rfl)
  · have d3 : decide ((i : Int) < (k.length : Int)) = false := decide_eq_false (by omega)
    rw [decide_eq_true (show (1 ≤ k.length ∧ k.length ≤ 20) ∧ ∀ j, j < k.length → byteOk (k.getD j default) = true from ⟨by omega, fun j hj => hx j (by omega)⟩)]
    as_aux_lemma =>
      repeat' (first
          | refine rnC ?_
          | refine rnSB ?_
          | refine rnG ?_
          | refine rnU ?_
          | ((fail_if_success (refine rnKn ?_)); refine rnP ?_ ?_ <;> (intro hq; try (have hq' := hq; simp only [hqs] at hq')))
          | refine rkC ?_
          | refine rkSB ?_
          | refine rkF ?_
          | refine rkU ?_
          | ((fail_if_success (refine rkKn ?_)); refine rkP ?_ ?_ <;> (intro hq; try (have hq' := hq; simp only [hqs] at hq')))
          | refine stp ?_
          | refine ifT ?_
          | refine ifF ?_
          | (refine ifQ ?_ ?_ <;> (try (intro hn)))
          | (refine ifB ?_ ?_ <;> (intro hq; try (have hq' := hq; simp only [hqs] at hq'))))
      exact rt1 rfl rfl finS_p rfl
instance refKeyRight_i {k : List Nat} : PC Tryz.prog 35 [strV k] (okB k ∧ k.length ≤ 1000000) (.p (.b (keyR k))) := ⟨fun h => refKeyRight_w k h.1 h.2⟩
theorem refKeyPart_w (k : List Nat) (hk : okB k) (hl : k.length ≤ 1000000) : PCall Tryz.prog 37 [strV k] (.p (.i (partF k : Int))) := by
  refine pcall_of Tryz.func37 rfl (fun w0 F S0 M0 => ?_)
  rw [← part_top]
  have hSl := sum_len k
  have hb := getD_ok (sum_okB k) 0
  haveI : ∀ ex, PC Tryz.prog 53 [bytesN k ex] True (.a ((sum k).map bc)) := fun ex => ⟨fun _ => rsum_c k ex (by omega) hk⟩
  generalize sum k = S at *
  have e : IntKind.i64.wrap ((S.getD (0 : Int).toNat default / 32 % md .u8 : Nat) : Int) = ((S.getD 0 default / 32 : Nat) : Int) := by
    rw [show S.getD (0 : Int).toNat default = S.getD 0 default from rfl, show S.getD 0 default / 32 % md .u8 = S.getD 0 default / 32 from Nat.mod_eq_of_lt (show S.getD 0 default / 32 < 256 by omega)]
    exact IntWalk.i64_in _ (by omega)
  rw [← e]
  as_aux_lemma =>
    repeat' (first
        | refine rnC ?_
        | refine rnSB ?_
        | refine rnG ?_
        | refine rnU ?_
        | ((fail_if_success (refine rnKn ?_)); refine rnP ?_ ?_ <;> (intro hq; try (have hq' := hq; simp only [hqs] at hq')))
        | refine rkC ?_
        | refine rkSB ?_
        | refine rkF ?_
        | refine rkU ?_
        | ((fail_if_success (refine rkKn ?_)); refine rkP ?_ ?_ <;> (intro hq; try (have hq' := hq; simp only [hqs] at hq')))
        | refine stp ?_
        | refine ifT ?_
        | refine ifF ?_
        | (refine ifQ ?_ ?_ <;> (try (intro hn)))
        | (refine ifB ?_ ?_ <;> (intro hq; try (have hq' := hq; simp only [hqs] at hq'))))
    exact rt1 rfl rfl finS_p rfl
instance refKeyPart_i {k : List Nat} : PC Tryz.prog 37 [strV k] (okB k ∧ k.length ≤ 1000000) (.p (.i (partF k : Int))) := ⟨fun h => refKeyPart_w k h.1 h.2⟩
end Go.Proofs.YthhlcdacmlnjdaaGreat.Rg
namespace Go.Proofs.YthhlcdacmlnjdaaGreat.Rg
open Go Go.RowKit Go.Aw Go.Aw.Cart Go.Aw.Ord Go.Sort Go.Proofs.YthhlcdacmlnjdaaGreat.Ca
set_option linter.unusedVariables false
set_option linter.unusedSimpArgs false
set_option maxRecDepth 8000
set_option maxHeartbeats 4000000
/-- a function's value that tells something of a number -/
class FPI (P : Program) (f : FuncId) (caps : List PVal) (pre : outParam Prop) (p : outParam (Int → Bool)) : Prop where
  call : pre → ∀ e, PCall P f ([AV.p (PVal.i e)] ++ caps.map .p) (.p (.b (p e)))
def idxPI (p : Int → Bool) (l : List Int) (k : Nat) : Nat → Int
  | 0 => -1
  | n + 1 => if p (l.getD k default) = true then k else idxPI p l (k + 1) n
theorem idxPI_any {p : Int → Bool} {l : List Int} : ∀ (n k : Nat), k + n = l.length → decide (0 ≤ idxPI p l k n) = (l.drop k).any p
  | 0, k, h => by rw [List.drop_eq_nil_of_le (by omega)]; rfl
  | n + 1, k, h => by
    have hk : k < l.length := by omega
    have e : l.drop k = l.getD k default :: l.drop (k + 1) := by
      rw [List.getD_eq_getElem?_getD, List.getElem?_eq_getElem hk]; exact List.drop_eq_getElem_cons hk
    rw [idxPI, e, List.any_cons, ← idxPI_any n (k + 1) (by omega)]
    by_cases hp : p (l.getD k default) = true
    · rw [if_pos hp, hp]; exact decide_eq_true (by omega)
    · rw [if_neg hp, Bool.eq_false_iff.2 hp, Bool.false_or]
namespace DI
theorem lopC {C : Ctx} {o : Oper} {σ : St} {e : Eff} {ro : Nat → Bool} (h : LOp C o σ e ro := by
    first
      | (apply lop_callv1; (focus rfl); (focus rfl); (focus assumption); (focus first | exact lk_o rfl | exact lk_a rfl); (focus exact inferInstance); (focus exact inferInstance); (focus exact True.intro); (focus rfl))
      | exact lopQ
      | fail) : LOp C o σ e ro := h
section steps
variable {C : Ctx} {ops : Array Oper} {o : Oper} {rest : List Oper} {K : St → Prop} {σ : St} {e : Eff} {ro : Nat → Bool} {W : List (Nat × Nat)} {i : Nat}
theorem rnC {d : Nat} (hk : RunN C ops rest K (e.app (some d) σ)) (hg : Guard ops σ o true := by first | exact gd_n rfl rfl | exact gd_t rfl rfl rfl rfl | exact gd_t rfl rfl rfl (by assumption)) (hd : o.dst = some d := by rfl) (h : LOp C o σ e ro := by exact lopC) : RunN C ops (o :: rest) K σ := rn_any hg hd h hk
end steps
/-- the first one of which something holds, in an own slice -/
theorem indexFuncI_o (f : FuncId) (caps : List PVal) (hf : FnT Tryz.prog f) (p : Int → Bool) (n : Nat) (l : List Int) (h : l.length ≤ 1000000000) (hp : ∀ e, PCall Tryz.prog f ([AV.p (PVal.i e)] ++ caps.map .p) (.p (.b (p e)))) : OCall Tryz.prog 32 [.o (.osl 1000 n 1 0 l.length), .p (.fnv f caps)] (memL [(1000, (n + 1, some (.buf 3 1 (l.map iR))))]) (.p (.i (idxPI p l 0 l.length))) (memL [(1000, (n + 1, some (.buf 3 1 (l.map iR))))]) := by
  refine ocall_of1 Tryz.func32 rfl (fun w0 F S0 M0 => ?_)
  haveI : ∀ e, PC Tryz.prog f ([AV.p (PVal.i e)] ++ caps.map .p) True (.p (.b (p e))) := fun e => ⟨fun _ => hp e⟩
  obtain ⟨A, hA⟩ : ∃ A, A = idxPI p l 0 l.length := ⟨_, rfl⟩
  rw [← hA]
  repeat' (first
      | refine rnC ?_
      | refine rnSQ ?_
      | refine rnG ?_
      | refine rnU ?_
      | ((fail_if_success (refine rnKn ?_)); refine rnP ?_ ?_ <;> (intro hq; try (have hq' := hq; simp only [hqs] at hq')))
      | refine rkC ?_
      | refine rkSQ ?_
      | refine rkF ?_
      | refine rkU ?_
      | ((fail_if_success (refine rkKn ?_)); refine rkP ?_ ?_ <;> (intro hq; try (have hq' := hq; simp only [hqs] at hq')))
      | refine stp ?_
      | refine ifT ?_
      | refine ifF ?_
      | (refine ifQ ?_ ?_ <;> (try (intro hn)))
      | (refine ifB ?_ ?_ <;> (intro hq; try (have hq' := hq; simp only [hqs] at hq'))))
  refine aws_loopS [4, 5, 8, 9, 10, 11, 12, 13, 14, 15, 16, 17, 18] [] (fun (i : Nat) => [(8, .p (.i i))]) (fun _ => []) (fun i => i ≤ l.length ∧ A = idxPI p l i (l.length - i)) (fun i => l.length - i) 0 ⟨Nat.zero_le _, hA⟩ (by exact knA) (by exact knA) ?_
  rintro i β γ ⟨hi, hx⟩
  by_cases hil : i < l.length
  · have hlt : decide ((i : Int) < l.length) = true := decide_eq_true (by omega)
    rw [show l.length - i = (l.length - (i + 1)) + 1 by omega, idxPI] at hx
    cases hv : p (l.getD (i : Int).toNat default) with
    | true =>
      have hv' := hv
      rw [Int.toNat_natCast] at hv'
      rw [if_pos hv'] at hx
      rw [hx]
      as_aux_lemma =>
        repeat' (first
            | refine rnC ?_
            | refine rnSQ ?_
            | refine rnG ?_
            | refine rnU ?_
            | ((fail_if_success (refine rnKn ?_)); refine rnP ?_ ?_ <;> (intro hq; try (have hq' := hq; simp only [hqs] at hq')))
            | refine rkC ?_
            | refine rkSQ ?_
            | refine rkF ?_
            | refine rkU ?_
            | ((fail_if_success (refine rkKn ?_)); refine rkP ?_ ?_ <;> (intro hq; try (have hq' := hq; simp only [hqs] at hq')))
            | refine stp ?_
            | refine ifT ?_
            | refine ifF ?_
            | (refine ifQ ?_ ?_ <;> (try (intro hn)))
            | (refine ifB ?_ ?_ <;> (intro hq; try (have hq' := hq; simp only [hqs] at hq'))))
        exact RetO.mk (ot1 rfl rfl finS_p rfl) ⟨.buf, trivial⟩
    | false =>
      have hv' := hv
      rw [Int.toNat_natCast] at hv'
      rw [if_neg (by rw [hv']; simp)] at hx
      as_aux_lemma =>
        repeat' (first
            | refine rnC ?_
            | refine rnSQ ?_
            | refine rnG ?_
            | refine rnU ?_
            | ((fail_if_success (refine rnKn ?_)); refine rnP ?_ ?_ <;> (intro hq; try (have hq' := hq; simp only [hqs] at hq')))
            | refine rkC ?_
            | refine rkSQ ?_
            | refine rkF ?_
            | refine rkU ?_
            | ((fail_if_success (refine rkKn ?_)); refine rkP ?_ ?_ <;> (intro hq; try (have hq' := hq; simp only [hqs] at hq')))
            | refine stp ?_
            | refine ifT ?_
            | refine ifF ?_
            | (refine ifQ ?_ ?_ <;> (try (intro hn)))
            | (refine ifB ?_ ?_ <;> (intro hq; try (have hq' := hq; simp only [hqs] at hq'))))
        exact ⟨i + 1, _, by omega, ⟨by omega, hx⟩, .refl, by exact frA⟩
  · have hlt : decide ((i : Int) < l.length) = false := decide_eq_false (by omega)
    rw [show l.length - i = 0 by omega, idxPI] at hx
    rw [hx]
    as_aux_lemma =>
      repeat' (first
          | refine rnC ?_
          | refine rnSQ ?_
          | refine rnG ?_
          | refine rnU ?_
          | ((fail_if_success (refine rnKn ?_)); refine rnP ?_ ?_ <;> (intro hq; try (have hq' := hq; simp only [hqs] at hq')))
          | refine rkC ?_
          | refine rkSQ ?_
          | refine rkF ?_
          | refine rkU ?_
          | ((fail_if_success (refine rkKn ?_)); refine rkP ?_ ?_ <;> (intro hq; try (have hq' := hq; simp only [hqs] at hq')))
          | refine stp ?_
          | refine ifT ?_
          | refine ifF ?_
          | (refine ifQ ?_ ?_ <;> (try (intro hn)))
          | (refine ifB ?_ ?_ <;> (intro hq; try (have hq' := hq; simp only [hqs] at hq'))))
      exact RetO.mk (ot1 rfl rfl finS_p rfl) ⟨.buf, trivial⟩
end DI
instance indexFI_i {f : FuncId} {caps : List PVal} {pre : Prop} {p : Int → Bool} {c g n : Nat} {l : List Int} [hf : FnT Tryz.prog f] [hp : FPI Tryz.prog f caps pre p] : OC Tryz.prog 32 [.o (.osl c g 1 0 l.length), .p (.fnv f caps)] [(c, (n, some (.buf 3 1 (l.map iR))))] [] (n = g + 1 ∧ pre ∧ l.length ≤ 1000000000) (.p (.i (idxPI p l 0 l.length))) [(c, (n, some (.buf 3 1 (l.map iR))))] := ⟨fun h => by obtain ⟨rfl, h0, h⟩ := h; exact (DI.indexFuncI_o f caps hf p g l h (hp.call h0)).one c⟩
namespace DJ
open DI
theorem idxPI_found {p : Int → Bool} {l : List Int} : ∀ (n k : Nat), k + n = l.length → (idxPI p l k n = -1 ∧ ∀ i, k ≤ i → i < l.length → p (l.getD i default) = false) ∨ ∃ i0 : Nat, idxPI p l k n = i0 ∧ k ≤ i0 ∧ i0 < l.length ∧ p (l.getD i0 default) = true ∧ ∀ i, k ≤ i → i < i0 → p (l.getD i default) = false
  | 0, k, h => .inl ⟨rfl, fun i h1 h2 => by omega⟩
  | n + 1, k, h => by
    rw [idxPI]
    by_cases hp : p (l.getD k default) = true
    · rw [if_pos hp]; exact .inr ⟨k, rfl, Nat.le_refl _, by omega, hp, fun i h1 h2 => by omega⟩
    · rw [if_neg hp]
      have hp' := Bool.eq_false_iff.2 hp
      rcases idxPI_found (p := p) (l := l) n (k + 1) (by omega) with ⟨h1, h2⟩ | ⟨i0, h1, h2, h3, h4, h5⟩
      · refine .inl ⟨h1, fun i a b => ?_⟩
        by_cases e : i = k
        · rw [e]; exact hp'
        · exact h2 i (by omega) b
      · refine .inr ⟨i0, h1, by omega, h3, h4, fun i a b => ?_⟩
        by_cases e : i = k
        · rw [e]; exact hp'
        · exact h5 i (by omega) b
theorem filter_take {p : Int → Bool} {l : List Int} {k : Nat} (hk : k ≤ l.length) (h : ∀ i : Nat, i < k → p (l.getD i default) = false) : (l.take k).filter (fun e => !p e) = l.take k := by
  rw [List.filter_eq_self]
  intro a ha
  obtain ⟨i, hi, rfl⟩ := List.mem_iff_getElem.1 ha
  rw [List.length_take] at hi
  have := h i (by omega : i < k)
  rw [List.getD_eq_getElem?_getD, List.getElem?_eq_getElem (by omega)] at this
  rw [List.getElem_take]
  simpa using this
theorem take_get {l : List Int} {k : Nat} (h : k < l.length) : l.take (k + 1) = l.take k ++ [l.getD k default] := by
  rw [List.take_succ_eq_append_getElem h, List.getD_eq_getElem?_getD, List.getElem?_eq_getElem h]; rfl
theorem deleteFuncI_o (f : FuncId) (caps : List PVal) (hf : FnT Tryz.prog f) (p : Int → Bool) (n : Nat) (l : List Int) (h : l.length ≤ 1000000000) (hp : ∀ e, PCall Tryz.prog f ([AV.p (PVal.i e)] ++ caps.map .p) (.p (.b (p e)))) : OCall Tryz.prog 38 [.o (.osl 1000 n 1 0 l.length), .p (.fnv f caps)] (memL [(1000, (n + 1, some (.buf 3 1 (l.map iR))))]) (.o (.osl 1000 n 1 0 (l.filter fun e => !p e).length)) (memL [(1000, (n + 1, some (.buf 3 1 ((l.filter fun e => !p e).map iR))))]) := by
  refine ocall_of1 Tryz.func38 rfl (fun w0 F S0 M0 => ?_)
  haveI : ∀ e, PC Tryz.prog f ([AV.p (PVal.i e)] ++ caps.map .p) True (.p (.b (p e))) := fun e => ⟨fun _ => hp e⟩
  haveI : FPI Tryz.prog f caps True p := ⟨fun _ => hp⟩
  obtain ⟨L, hL⟩ : ∃ L, L = (l.filter fun e => !p e).length := ⟨_, rfl⟩
  obtain ⟨A, hA⟩ : ∃ A, A = l.filter fun e => !p e := ⟨_, rfl⟩
  rw [← hL, ← hA]
  rcases idxPI_found (p := p) (l := l) l.length 0 (by omega) with ⟨hi, hno⟩ | ⟨i0, hi, -, hil, hpi, hno⟩
  · obtain ⟨I, hI⟩ : ∃ I, I = idxPI p l 0 l.length := ⟨_, rfl⟩
    have d1 : decide (idxPI p l 0 l.length = -1) = true := decide_eq_true hi
    have e := filter_take (Nat.le_refl _) (fun i hi => hno i (Nat.zero_le _) hi)
    rw [List.take_length] at e
    rw [e] at hL hA
    subst hL hA
    as_aux_lemma =>
      repeat' (first
          | refine rnC ?_
          | refine rnSQ ?_
          | refine rnG ?_
          | refine rnU ?_
          | ((fail_if_success (refine rnKn ?_)); refine rnP ?_ ?_ <;> (intro hq; try (have hq' := hq; simp only [hqs] at hq')))
          | refine rkC ?_
          | refine rkSQ ?_
          | refine rkF ?_
          | refine rkU ?_
          | ((fail_if_success (refine rkKn ?_)); refine rkP ?_ ?_ <;> (intro hq; try (have hq' := hq; simp only [hqs] at hq')))
          | refine stp ?_
          | refine ifT ?_
          | refine ifF ?_
          | (refine ifQ ?_ ?_ <;> (try (intro hn)))
          | (refine ifB ?_ ?_ <;> (intro hq; try (have hq' := hq; simp only [hqs] at hq'))))
      exact RetO.mk (ot1 rfl rfl (.one (.kosl rfl)) rfl) ⟨.buf, trivial⟩
  · have d1 : decide (idxPI p l 0 l.length = -1) = false := decide_eq_false (by omega)
    have e0 : (l.take (i0 + 1)).filter (fun e => !p e) = l.take i0 := by
      rw [take_get hil, List.filter_append, filter_take (by omega) (fun i hi => hno i (Nat.zero_le _) hi)]
      rw [List.filter_cons_of_neg (by rw [hpi]; simp), List.filter_nil, List.append_nil]
    haveI hX : OC Tryz.prog 32 [.o (.osl 1000 n 1 0 l.length), .p (.fnv f caps)] [(1000, (n + 1, some (.buf 3 1 (l.map iR))))] [] True (.p (.i i0)) [(1000, (n + 1, some (.buf 3 1 (l.map iR))))] := ⟨fun _ => by rw [← hi]; exact (indexFuncI_o f caps hf p n l h hp).one 1000⟩
    have d2 : decide ((i0 : Int) = -1) = false := decide_eq_false (by omega)
    repeat' (first
        | refine rnC ?_
        | refine rnSQ ?_
        | refine rnG ?_
        | refine rnU ?_
        | ((fail_if_success (refine rnKn ?_)); refine rnP ?_ ?_ <;> (intro hq; try (have hq' := hq; simp only [hqs] at hq')))
        | refine rkC ?_
        | refine rkSQ ?_
        | refine rkF ?_
        | refine rkU ?_
        | ((fail_if_success (refine rkKn ?_)); refine rkP ?_ ?_ <;> (intro hq; try (have hq' := hq; simp only [hqs] at hq')))
        | refine stp ?_
        | refine ifT ?_
        | refine ifF ?_
        | (refine ifQ ?_ ?_ <;> (try (intro hn)))
        | (refine ifB ?_ ?_ <;> (intro hq; try (have hq' := hq; simp only [hqs] at hq'))))
    refine aws_loopS [5, 6, 7, 16, 17, 18, 19, 20, 21, 22, 23, 24, 25, 26, 27, 28, 29, 30, 31, 32, 33, 34, 35] [1000] (fun (x : Nat × Nat × List Int) => [(6, .p (.i (i0 + 1 + x.1 : Nat))), (5, .p (.i x.2.1))]) (fun x => [(1000, (n + 1, some (.buf 3 1 (x.2.2.map iR))))])
      (fun x => i0 + 1 + x.1 ≤ l.length ∧ x.2.1 < i0 + 1 + x.1 ∧ x.2.2.length = l.length ∧ x.2.2.take x.2.1 = (l.take (i0 + 1 + x.1)).filter (fun e => !p e) ∧ ∀ i, i0 + 1 + x.1 ≤ i → x.2.2.getD i default = l.getD i default)
      (fun x => l.length - x.1) (0, i0, l) ⟨by dsimp only; omega, by dsimp only; omega, rfl, e0.symm, fun i _ => rfl⟩ (by exact knA) (by exact knA) ?_
    rintro ⟨j, q, m⟩ β γ ⟨hjl, hqj, hml, hmc, hmr⟩
    simp only at hjl hqj hml hmc hmr
    dsimp only
    by_cases hjn : i0 + 1 + j < l.length
    · have hd2 : decide (((i0 + 1 + j : Nat) : Int) < (l.length : Int)) = true := decide_eq_true (by omega)
      have hm0 : m.getD ((i0 + 1 + j : Nat) : Int).toNat default = l.getD (i0 + 1 + j) default := by rw [Int.toNat_natCast]; exact hmr _ (by omega)
      have hct : (l.take (i0 + 1 + (j + 1))).filter (fun e => !p e) = (l.take (i0 + 1 + j)).filter (fun e => !p e) ++ (if p (l.getD (i0 + 1 + j) default) = true then [] else [l.getD (i0 + 1 + j) default]) := by
        rw [← Nat.add_assoc, take_get hjn, List.filter_append]
        congr 1
        by_cases hx : p (l.getD (i0 + 1 + j) default) = true
        · rw [if_pos hx, List.filter_cons_of_neg (by rw [hx]; simp), List.filter_nil]
        · rw [if_neg hx, List.filter_cons_of_pos (by rw [Bool.eq_false_iff.2 hx]; rfl), List.filter_nil]
      cases hv : p (m.getD ((i0 + 1 + j : Nat) : Int).toNat default) with
      | true =>
        have hv1 : (!p (m.getD ((i0 + 1 + j : Nat) : Int).toNat default)) = false := by rw [hv]; rfl
        rw [hm0] at hv
        rw [if_pos hv, List.append_nil] at hct
        as_aux_lemma =>
          repeat' (first
              | refine rnC ?_
              | refine rnSQ ?_
              | refine rnG ?_
              | refine rnU ?_
              | ((fail_if_success (refine rnKn ?_)); refine rnP ?_ ?_ <;> (intro hq; try (have hq' := hq; simp only [hqs] at hq')))
              | refine rkC ?_
              | refine rkSQ ?_
              | refine rkF ?_
              | refine rkU ?_
              | ((fail_if_success (refine rkKn ?_)); refine rkP ?_ ?_ <;> (intro hq; try (have hq' := hq; simp only [hqs] at hq')))
              | refine stp ?_
              | refine ifT ?_
              | refine ifF ?_
              | (refine ifQ ?_ ?_ <;> (try (intro hn)))
              | (refine ifB ?_ ?_ <;> (intro hq; try (have hq' := hq; simp only [hqs] at hq'))))
          exact ⟨(j + 1, q, m), _, by dsimp only; omega, ⟨by dsimp only; omega, by dsimp only; omega, hml, by dsimp only; rw [hmc, hct], fun i hi => hmr i (by dsimp only at hi; omega)⟩, .refl, by exact frA⟩
      | false =>
        have hv1 : (!p (m.getD ((i0 + 1 + j : Nat) : Int).toNat default)) = true := by rw [hv]; rfl
        rw [hm0] at hv
        rw [if_neg (by rw [hv]; simp)] at hct
        as_aux_lemma =>
          repeat' (first
              | refine rnC ?_
              | refine rnSQ ?_
              | refine rnG ?_
              | refine rnU ?_
              | ((fail_if_success (refine rnKn ?_)); refine rnP ?_ ?_ <;> (intro hq; try (have hq' := hq; simp only [hqs] at hq')))
              | refine rkC ?_
              | refine rkSQ ?_
              | refine rkF ?_
              | refine rkU ?_
              | ((fail_if_success (refine rkKn ?_)); refine rkP ?_ ?_ <;> (intro hq; try (have hq' := hq; simp only [hqs] at hq')))
              | refine stp ?_
              | refine ifT ?_
              | refine ifF ?_
              | (refine ifQ ?_ ?_ <;> (try (intro hn)))
              | (refine ifB ?_ ?_ <;> (intro hq; try (have hq' := hq; simp only [hqs] at hq'))))
          refine ⟨(j + 1, q + 1, m.set (q : Int).toNat (m.getD ((i0 + 1 + j : Nat) : Int).toNat default)), _, by dsimp only; omega, ⟨by dsimp only; omega, by dsimp only; omega, by dsimp only; rw [List.length_set]; exact hml, ?_, fun i hi => ?_⟩, .refl, by exact frA⟩
          · dsimp only
            rw [hm0, hct, ← hmc, Int.toNat_natCast, List.take_succ_eq_append_getElem (by rw [List.length_set]; omega), List.getElem_set_self, List.take_set_of_le (Nat.le_refl _)]
          · dsimp only at hi ⊢
            rw [List.getD_eq_getElem?_getD, List.getElem?_set_ne (by rw [Int.toNat_natCast]; omega), ← List.getD_eq_getElem?_getD]
            exact hmr i (by omega)
    · have hd2 : decide (((i0 + 1 + j : Nat) : Int) < (l.length : Int)) = false := decide_eq_false (by omega)
      have e1 : l.take (i0 + 1 + j) = l := List.take_of_length_le (by omega)
      rw [e1] at hmc
      have hA' : A = m.take (q : Int).toNat := by rw [hA, ← hmc, Int.toNat_natCast]
      have hL' : L = (q : Int).toNat := by rw [hL, ← hmc, List.length_take, Int.toNat_natCast]; omega
      rw [hA', hL']
      as_aux_lemma =>
        repeat' (first
            | refine rnC ?_
            | refine rnSQ ?_
            | refine rnG ?_
            | refine rnU ?_
            | ((fail_if_success (refine rnKn ?_)); refine rnP ?_ ?_ <;> (intro hq; try (have hq' := hq; simp only [hqs] at hq')))
            | refine rkC ?_
            | refine rkSQ ?_
            | refine rkF ?_
            | refine rkU ?_
            | ((fail_if_success (refine rkKn ?_)); refine rkP ?_ ?_ <;> (intro hq; try (have hq' := hq; simp only [hqs] at hq')))
            | refine stp ?_
            | refine ifT ?_
            | refine ifF ?_
            | (refine ifQ ?_ ?_ <;> (try (intro hn)))
            | (refine ifB ?_ ?_ <;> (intro hq; try (have hq' := hq; simp only [hqs] at hq'))))
        exact RetO.mk (ot1 rfl rfl (.one (.kosl rfl)) rfl) ⟨.buf, trivial⟩
end DJ
instance deleteFI_i {f : FuncId} {caps : List PVal} {pre : Prop} {p : Int → Bool} {c g n : Nat} {l : List Int} [hf : FnT Tryz.prog f] [hp : FPI Tryz.prog f caps pre p] : OC Tryz.prog 38 [.o (.osl c g 1 0 l.length), .p (.fnv f caps)] [(c, (n, some (.buf 3 1 (l.map iR))))] [] (n = g + 1 ∧ pre ∧ l.length ≤ 1000000000) (.o (.osl c g 1 0 (l.filter fun e => !p e).length)) [(c, (n, some (.buf 3 1 ((l.filter fun e => !p e).map iR))))] := ⟨fun h => by obtain ⟨rfl, h0, h⟩ := h; exact (DJ.deleteFuncI_o f caps hf p g l h (hp.call h0)).one c⟩
section
open DI
theorem indexFuncI_w (f : FuncId) (caps : List PVal) (hf : FnT Tryz.prog f) (p : Int → Bool) (l : List Int) (ex : Bool) (h : l.length ≤ 1000000000) (hp : ∀ e, PCall Tryz.prog f ([AV.p (PVal.i e)] ++ caps.map .p) (.p (.b (p e)))) : PCall Tryz.prog 32 [.p (.sl 1 (l.map iR) ex), .p (.fnv f caps)] (.p (.i (idxPI p l 0 l.length))) := by
  refine pcall_of Tryz.func32 rfl (fun w0 F S0 M0 => ?_)
  haveI : ∀ e, PC Tryz.prog f ([AV.p (PVal.i e)] ++ caps.map .p) True (.p (.b (p e))) := fun e => ⟨fun _ => hp e⟩
  obtain ⟨A, hA⟩ : ∃ A, A = idxPI p l 0 l.length := ⟨_, rfl⟩
  rw [← hA]
  repeat' (first
      | refine rnC ?_
      | refine rnSB ?_
      | refine rnG ?_
      | refine rnU ?_
      | ((fail_if_success (refine rnKn ?_)); refine rnP ?_ ?_ <;> (intro hq; try (have hq' := hq; simp only [hqs] at hq')))
      | refine rkC ?_
      | refine rkSB ?_
      | refine rkF ?_
      | refine rkU ?_
      | ((fail_if_success (refine rkKn ?_)); refine rkP ?_ ?_ <;> (intro hq; try (have hq' := hq; simp only [hqs] at hq')))
      | refine stp ?_
      | refine ifT ?_
      | refine ifF ?_
      | (refine ifQ ?_ ?_ <;> (try (intro hn)))
      | (refine ifB ?_ ?_ <;> (intro hq; try (have hq' := hq; simp only [hqs] at hq'))))
  refine aws_loopS [4, 5, 8, 9, 10, 11, 12, 13, 14, 15, 16, 17, 18] [] (fun (i : Nat) => [(8, .p (.i i))]) (fun _ => []) (fun i => i ≤ l.length ∧ A = idxPI p l i (l.length - i)) (fun i => l.length - i) 0 ⟨Nat.zero_le _, hA⟩ (by exact knA) (by exact knA) ?_
  rintro i β γ ⟨hi, hx⟩
  by_cases hil : i < l.length
  · have hlt : decide ((i : Int) < l.length) = true := decide_eq_true (by omega)
    rw [show l.length - i = (l.length - (i + 1)) + 1 by omega, idxPI] at hx
    cases hv : p (l.getD (i : Int).toNat default) with
    | true =>
      have hv' := hv
      rw [Int.toNat_natCast] at hv'
      rw [if_pos hv'] at hx
      rw [hx]
      as_aux_lemma =>
        repeat' (first
            | refine rnC ?_
            | refine rnSB ?_
            | refine rnG ?_
            | refine rnU ?_
            | ((fail_if_success (refine rnKn ?_)); refine rnP ?_ ?_ <;> (intro hq; try (have hq' := hq; simp only [hqs] at hq')))
            | refine rkC ?_
            | refine rkSB ?_
            | refine rkF ?_
            | refine rkU ?_
            | ((fail_if_success (refine rkKn ?_)); refine rkP ?_ ?_ <;> (intro hq; try (have hq' := hq; simp only [hqs] at hq')))
            | refine stp ?_
            | refine ifT ?_
            | refine ifF ?_
            | (refine ifQ ?_ ?_ <;> (try (intro hn)))
            | (refine ifB ?_ ?_ <;> (intro hq; try (have hq' := hq; simp only [hqs] at hq'))))
        exact rt1 rfl rfl finS_p rfl
    | false =>
      have hv' := hv
      rw [Int.toNat_natCast] at hv'
      rw [if_neg (by rw [hv']; simp)] at hx
      as_aux_lemma =>
        repeat' (first
            | refine rnC ?_
            | refine rnSB ?_
            | refine rnG ?_
            | refine rnU ?_
            | ((fail_if_success (refine rnKn ?_)); refine rnP ?_ ?_ <;> (intro hq; try (have hq' := hq; simp only [hqs] at hq')))
            | refine rkC ?_
            | refine rkSB ?_
            | refine rkF ?_
            | refine rkU ?_
            | ((fail_if_success (refine rkKn ?_)); refine rkP ?_ ?_ <;> (intro hq; try (have hq' := hq; simp only [hqs] at hq')))
            | refine stp ?_
            | refine ifT ?_
            | refine ifF ?_
            | (refine ifQ ?_ ?_ <;> (try (intro hn)))
            | (refine ifB ?_ ?_ <;> (intro hq; try (have hq' := hq; simp only [hqs] at hq'))))
        exact ⟨i + 1, _, by omega, ⟨by omega, hx⟩, .refl, by exact frA⟩
  · have hlt : decide ((i : Int) < l.length) = false := decide_eq_false (by omega)
    rw [show l.length - i = 0 by omega, idxPI] at hx
    rw [hx]
    as_aux_lemma =>
      repeat' (first
          | refine rnC ?_
          | refine rnSB ?_
          | refine rnG ?_
          | refine rnU ?_
          | ((fail_if_success (refine rnKn ?_)); refine rnP ?_ ?_ <;> (intro hq; try (have hq' := hq; simp only [hqs] at hq')))
          | refine rkC ?_
          | refine rkSB ?_
          | refine rkF ?_
          | refine rkU ?_
          | ((fail_if_success (refine rkKn ?_)); refine rkP ?_ ?_ <;> (intro hq; try (have hq' := hq; simp only [hqs] at hq')))
          | refine stp ?_
          | refine ifT ?_
          | refine ifF ?_
          | (refine ifQ ?_ ?_ <;> (try (intro hn)))
          | (refine ifB ?_ ?_ <;> (intro hq; try (have hq' := hq; simp only [hqs] at hq'))))
      exact rt1 rfl rfl finS_p rfl
instance indexFuncIp_i {f : FuncId} {caps : List PVal} {pre : Prop} {p : Int → Bool} {l : List Int} {ex : Bool} [hf : FnT Tryz.prog f] [hp : FPI Tryz.prog f caps pre p] : PC Tryz.prog 32 [.p (.sl 1 (l.map iR) ex), .p (.fnv f caps)] (pre ∧ l.length ≤ 1000000000) (.p (.i (idxPI p l 0 l.length))) := ⟨fun h => indexFuncI_w f caps hf p l ex h.2 (hp.call h.1)⟩
end
end Go.Proofs.YthhlcdacmlnjdaaGreat.Rg
namespace Go.Proofs.YthhlcdacmlnjdaaGreat.Rg
open Go Go.RowKit Go.Aw Go.Aw.Cart Go.Aw.Ord Go.Sort Go.Proofs.YthhlcdacmlnjdaaGreat.Ca
set_option linter.unusedVariables false
set_option linter.unusedSimpArgs false
set_option maxRecDepth 8000
set_option maxHeartbeats 4000000
open PB
theorem rin_w (l : List Int) (ex : Bool) (n : Int) (h : l.length ≤ 1000000000) : PCall Tryz.prog 16 [.p (.sl 1 (l.map iR) ex), .p (.i n)] (.p (.b (decide (n ∈ l)))) := by
  refine pcall_of Tryz.func16 rfl (fun w0 F S0 M0 => ?_)
  repeat' (first
      | refine rnC ?_
      | refine rnSB ?_
      | refine rnG ?_
      | refine rnU ?_
      | ((fail_if_success (refine rnKn ?_)); refine rnP ?_ ?_ <;> (intro hq; try (have hq' := hq; simp only [hqs] at hq')))
      | refine rkC ?_
      | refine rkSB ?_
      | refine rkF ?_
      | refine rkU ?_
      | ((fail_if_success (refine rkKn ?_)); refine rkP ?_ ?_ <;> (intro hq; try (have hq' := hq; simp only [hqs] at hq')))
      | refine stp ?_
      | refine ifT ?_
      | refine ifF ?_
      | (refine ifQ ?_ ?_ <;> (try (intro hn)))
      | (refine ifB ?_ ?_ <;> (intro hq; try (have hq' := hq; simp only [hqs] at hq'))))
  refine aws_loopS [4, 5, 6, 7, 8, 9, 10, 11, 12, 13, 14, 15, 16, 17] [] (fun (i : Nat) => [(5, .p (.i i))]) (fun _ => []) (fun i => i ≤ l.length ∧ ∀ j, j < i → l.getD j default ≠ n) (fun i => l.length - i) 0 ⟨Nat.zero_le _, fun j hj => absurd hj (Nat.not_lt_zero _)⟩ (by exact knA) (by exact knA) ?_
  rintro i β γ ⟨hi, hx⟩
  by_cases hil : i < l.length
  · have d1 : decide ((i : Int) < (l.length : Int)) = true := decide_eq_true (by omega)
    have ei : (i : Int).toNat = i := Int.toNat_natCast i
    by_cases hq : l.getD (i : Int).toNat default = n
    · have d2 : decide (l.getD (i : Int).toNat default = n) = true := decide_eq_true hq
      rw [decide_eq_true (show n ∈ l by rw [← hq, ei, getD_at hil]; exact List.getElem_mem _)]
      as_aux_lemma =>
        repeat' (first
            | refine rnC ?_
            | refine rnSB ?_
            | refine rnG ?_
            | refine rnU ?_
            | ((fail_if_success (refine rnKn ?_)); refine rnP ?_ ?_ <;> (intro hq; try (have hq' := hq; simp only [hqs] at hq')))
            | refine rkC ?_
            | refine rkSB ?_
            | refine rkF ?_
            | refine rkU ?_
            | ((fail_if_success (refine rkKn ?_)); refine rkP ?_ ?_ <;> (intro hq; try (have hq' := hq; simp only [hqs] at hq')))
            | refine stp ?_
            | refine ifT ?_
            | refine ifF ?_
            | (refine ifQ ?_ ?_ <;> (try (intro hn)))
            | (refine ifB ?_ ?_ <;> (intro hq; try (have hq' := hq; simp only [hqs] at hq'))))
        exact rt1 rfl rfl finS_p rfl
    · have d2 : decide (l.getD (i : Int).toNat default = n) = false := decide_eq_false hq
      rw [ei] at hq
      repeat' (first
          | refine rnC ?_
          | refine rnSB ?_
          | refine rnG ?_
          | refine rnU ?_
          | ((fail_if_success (refine rnKn ?_)); refine rnP ?_ ?_ <;> (intro hq; try (have hq' := hq; simp only [hqs] at hq')))
          | refine rkC ?_
          | refine rkSB ?_
          | refine rkF ?_
          | refine rkU ?_
          | ((fail_if_success (refine rkKn ?_)); refine rkP ?_ ?_ <;> (intro hq; try (have hq' := hq; simp only [hqs] at hq')))
          | refine stp ?_
          | refine ifT ?_
          | refine ifF ?_
          | (refine ifQ ?_ ?_ <;> (try (intro hn)))
          | (refine ifB ?_ ?_ <;> (intro hq; try (have hq' := hq; simp only [hqs] at hq'))))
      refine ⟨i + 1, _, by omega, ⟨by omega, fun j hj => ?_⟩, .refl, by exact frA⟩
      by_cases e : j = i
      · rw [e]; exact hq
      · exact hx j (by omega)
  · have d1 : decide ((i : Int) < (l.length : Int)) = false := decide_eq_false (by omega)
    rw [decide_eq_false (show n ∉ l from fun k => by
      obtain ⟨j, hj, q⟩ := getD_mem k
      exact hx j (by omega) q)]
    as_aux_lemma =>
      repeat' (first
          | refine rnC ?_
          | refine rnSB ?_
          | refine rnG ?_
          | refine rnU ?_
          | ((fail_if_success (refine rnKn ?_)); refine rnP ?_ ?_ <;> (intro hq; try (have hq' := hq; simp only [hqs] at hq')))
          | refine rkC ?_
          | refine rkSB ?_
          | refine rkF ?_
          | refine rkU ?_
          | ((fail_if_success (refine rkKn ?_)); refine rkP ?_ ?_ <;> (intro hq; try (have hq' := hq; simp only [hqs] at hq')))
          | refine stp ?_
          | refine ifT ?_
          | refine ifF ?_
          | (refine ifQ ?_ ?_ <;> (try (intro hn)))
          | (refine ifB ?_ ?_ <;> (intro hq; try (have hq' := hq; simp only [hqs] at hq'))))
      exact rt1 rfl rfl finS_p rfl
instance rin_i {l : List Int} {ex : Bool} {n : Int} : PC Tryz.prog 16 [.p (.sl 1 (l.map iR) ex), .p (.i n)] (l.length ≤ 1000000000) (.p (.b (decide (n ∈ l)))) := ⟨rin_w l ex n⟩
theorem lin_w (l : List Int) (ex : Bool) (n : Int) (h : l.length ≤ 1000000000) : PCall Tryz.prog 23 [.p (.sl 1 (l.map iR) ex), .p (.i n)] (.p (.b (decide (n ∈ l)))) := by
  refine pcall_of Tryz.func23 rfl (fun w0 F S0 M0 => ?_)
  repeat' (first
      | refine rnC ?_
      | refine rnSB ?_
      | refine rnG ?_
      | refine rnU ?_
      | ((fail_if_success (refine rnKn ?_)); refine rnP ?_ ?_ <;> (intro hq; try (have hq' := hq; simp only [hqs] at hq')))
      | refine rkC ?_
      | refine rkSB ?_
      | refine rkF ?_
      | refine rkU ?_
      | ((fail_if_success (refine rkKn ?_)); refine rkP ?_ ?_ <;> (intro hq; try (have hq' := hq; simp only [hqs] at hq')))
      | refine stp ?_
      | refine ifT ?_
      | refine ifF ?_
      | (refine ifQ ?_ ?_ <;> (try (intro hn)))
      | (refine ifB ?_ ?_ <;> (intro hq; try (have hq' := hq; simp only [hqs] at hq'))))
  refine aws_loopS [4, 5, 6, 7, 8, 9, 10, 11, 12, 13, 14, 15, 16, 17] [] (fun (i : Nat) => [(5, .p (.i i))]) (fun _ => []) (fun i => i ≤ l.length ∧ ∀ j, j < i → l.getD j default ≠ n) (fun i => l.length - i) 0 ⟨Nat.zero_le _, fun j hj => absurd hj (Nat.not_lt_zero _)⟩ (by exact knA) (by exact knA) ?_
  rintro i β γ ⟨hi, hx⟩
  by_cases hil : i < l.length
  · have d1 : decide ((i : Int) < (l.length : Int)) = true := decide_eq_true (by omega)
    have ei : (i : Int).toNat = i := Int.toNat_natCast i
    by_cases hq : l.getD (i : Int).toNat default = n
    · have d2 : decide (l.getD (i : Int).toNat default = n) = true := decide_eq_true hq
      rw [decide_eq_true (show n ∈ l by rw [← hq, ei, getD_at hil]; exact List.getElem_mem _)]
      as_aux_lemma =>
        repeat' (first
            | refine rnC ?_
            | refine rnSB ?_
            | refine rnG ?_
            | refine rnU ?_
            | ((fail_if_success (refine rnKn ?_)); refine rnP ?_ ?_ <;> (intro hq; try (have hq' := hq; simp only [hqs] at hq')))
            | refine rkC ?_
            | refine rkSB ?_
            | refine rkF ?_
            | refine rkU ?_
            | ((fail_if_success (refine rkKn ?_)); refine rkP ?_ ?_ <;> (intro hq; try (have hq' := hq; simp only [hqs] at hq')))
            | refine stp ?_
            | refine ifT ?_
            | refine ifF ?_
            | (refine ifQ ?_ ?_ <;> (try (intro hn)))
            | (refine ifB ?_ ?_ <;> (intro hq; try (have hq' := hq; simp only [hqs] at hq'))))
        exact rt1 rfl rfl finS_p rfl
    · have d2 : decide (l.getD (i : Int).toNat default = n) = false := decide_eq_false hq
      rw [ei] at hq
      repeat' (first
          | refine rnC ?_
          | refine rnSB ?_
          | refine rnG ?_
          | refine rnU ?_
          | ((fail_if_success (refine rnKn ?_)); refine rnP ?_ ?_ <;> (intro hq; try (have hq' := hq; simp only [hqs] at hq')))
          | refine rkC ?_
          | refine rkSB ?_
          | refine rkF ?_
          | refine rkU ?_
          | ((fail_if_success (refine rkKn ?_)); refine rkP ?_ ?_ <;> (intro hq; try (have hq' := hq; simp only [hqs] at hq')))
          | refine stp ?_
          | refine ifT ?_
          | refine ifF ?_
          | (refine ifQ ?_ ?_ <;> (try (intro hn)))
          | (refine ifB ?_ ?_ <;> (intro hq; try (have hq' := hq; simp only [hqs] at hq'))))
      refine ⟨i + 1, _, by omega, ⟨by omega, fun j hj => ?_⟩, .refl, by exact frA⟩
      by_cases e : j = i
      · rw [e]; exact hq
      · exact hx j (by omega)
  · have d1 : decide ((i : Int) < (l.length : Int)) = false := decide_eq_false (by omega)
    rw [decide_eq_false (show n ∉ l from fun k => by
      obtain ⟨j, hj, q⟩ := getD_mem k
      exact hx j (by omega) q)]
    as_aux_lemma =>
      repeat' (first
          | refine rnC ?_
          | refine rnSB ?_
          | refine rnG ?_
          | refine rnU ?_
          | ((fail_if_success (refine rnKn ?_)); refine rnP ?_ ?_ <;> (intro hq; try (have hq' := hq; simp only [hqs] at hq')))
          | refine rkC ?_
          | refine rkSB ?_
          | refine rkF ?_
          | refine rkU ?_
          | ((fail_if_success (refine rkKn ?_)); refine rkP ?_ ?_ <;> (intro hq; try (have hq' := hq; simp only [hqs] at hq')))
          | refine stp ?_
          | refine ifT ?_
          | refine ifF ?_
          | (refine ifQ ?_ ?_ <;> (try (intro hn)))
          | (refine ifB ?_ ?_ <;> (intro hq; try (have hq' := hq; simp only [hqs] at hq'))))
      exact rt1 rfl rfl finS_p rfl
instance lin_i {l : List Int} {ex : Bool} {n : Int} : PC Tryz.prog 23 [.p (.sl 1 (l.map iR) ex), .p (.i n)] (l.length ≤ 1000000000) (.p (.b (decide (n ∈ l)))) := ⟨lin_w l ex n⟩
theorem list_ext13 {a b : List Int} (hl : a.length = b.length) (h : ∀ j, j < a.length → a.getD j default = b.getD j default) : a = b := by
  refine List.ext_getElem hl fun i h1 h2 => ?_
  have := h i h1
  rwa [getD_at h1, getD_at h2] at this
theorem same13_w (a b : List Int) (ea eb : Bool) (ha : a.length ≤ 1000000) (hb : b.length ≤ 1000000) : PCall Tryz.prog 12 [.p (.sl 1 (a.map iR) ea), .p (.sl 1 (b.map iR) eb)] (.p (.b (decide (a = b)))) := by
  refine pcall_of Tryz.func12 rfl (fun w0 F S0 M0 => ?_)
  by_cases hl : a.length = b.length
  case neg =>
    have d0 : decide ((a.length : Int) ≠ (b.length : Int)) = true := decide_eq_true (by omega)
    rw [decide_eq_false (show ¬ a = b from fun e => hl (by rw [e]))]
    as_aux_lemma =>
      repeat' (first
          | refine rnC ?_
          | refine rnSB ?_
          | refine rnG ?_
          | refine rnU ?_
          | ((fail_if_success (refine rnKn ?_)); refine rnP ?_ ?_ <;> (intro hq; try (have hq' := hq; simp only [hqs] at hq')))
          | refine rkC ?_
          | refine rkSB ?_
          | refine rkF ?_
          | refine rkU ?_
          | ((fail_if_success (refine rkKn ?_)); refine rkP ?_ ?_ <;> (intro hq; try (have hq' := hq; simp only [hqs] at hq')))
          | refine stp ?_
          | refine aws_draws [] mixed (by kernel_rfl) ?_
          | refine ifT ?_
          | refine ifF ?_
          | (refine ifQ ?_ ?_ <;> (try (intro hn)))
          | (refine ifB ?_ ?_ <;> (intro hq; try (have hq' := hq; simp only [hqs] at hq'))))
      exact rt1 rfl rfl finS_p rfl
  have d0 : decide ((a.length : Int) ≠ (b.length : Int)) = false := decide_eq_false (by omega)
  repeat' (first
      | refine rnC ?_
      | refine rnSB ?_
      | refine rnG ?_
      | refine rnU ?_
      | ((fail_if_success (refine rnKn ?_)); refine rnP ?_ ?_ <;> (intro hq; try (have hq' := hq; simp only [hqs] at hq')))
      | refine rkC ?_
      | refine rkSB ?_
      | refine rkF ?_
      | refine rkU ?_
      | ((fail_if_success (refine rkKn ?_)); refine rkP ?_ ?_ <;> (intro hq; try (have hq' := hq; simp only [hqs] at hq')))
      | refine stp ?_
      | refine ifT ?_
      | refine ifF ?_
      | (refine ifQ ?_ ?_ <;> (try (intro hn)))
      | (refine ifB ?_ ?_ <;> (intro hq; try (have hq' := hq; simp only [hqs] at hq'))))
  refine aws_loopS [4, 5, 11, 12, 13, 14, 15, 16, 17, 18, 19, 20, 21, 22, 23, 24, 25] [] (fun (i : Nat) => [(5, .p (.i i))]) (fun _ => []) (fun i => i ≤ a.length ∧ ∀ j, j < i → a.getD j default = b.getD j default) (fun i => a.length - i) 0 ⟨Nat.zero_le _, fun j hj => absurd hj (Nat.not_lt_zero _)⟩ (by exact knA) (by exact knA) ?_
  rintro i β γ ⟨hi, hx⟩
  by_cases hil : i < a.length
  · have d1 : decide ((i : Int) < (a.length : Int)) = true := decide_eq_true (by omega)
    have ei : (i : Int).toNat = i := Int.toNat_natCast i
    by_cases hq : a.getD (i : Int).toNat default = b.getD (i : Int).toNat default
    · have d2 : decide (a.getD (i : Int).toNat default ≠ b.getD (i : Int).toNat default) = false := decide_eq_false fun k => k hq
      rw [ei] at hq
      repeat' (first
          | refine rnC ?_
          | refine rnSB ?_
          | refine rnG ?_
          | refine rnU ?_
          | ((fail_if_success (refine rnKn ?_)); refine rnP ?_ ?_ <;> (intro hq; try (have hq' := hq; simp only [hqs] at hq')))
          | refine rkC ?_
          | refine rkSB ?_
          | refine rkF ?_
          | refine rkU ?_
          | ((fail_if_success (refine rkKn ?_)); refine rkP ?_ ?_ <;> (intro hq; try (have hq' := hq; simp only [hqs] at hq')))
          | refine stp ?_
          | refine aws_draws [] mixed (by kernel_rfl) ?_
          | refine ifT ?_
          | refine ifF ?_
          | (refine ifQ ?_ ?_ <;> (try (intro hn)))
          | (refine ifB ?_ ?_ <;> (intro hq; try (have hq' := hq; simp only [hqs] at hq'))))
      refine ⟨i + 1, _, by omega, ⟨by omega, fun j hj => ?_⟩, .refl, by exact frA⟩
      by_cases e : j = i
      · rw [e]; exact hq
      · exact hx j (by omega)
    · have d2 : decide (a.getD (i : Int).toNat default ≠ b.getD (i : Int).toNat default) = true := decide_eq_true hq
      rw [decide_eq_false (show ¬ a = b from fun e => hq (by rw [e]))]
      as_aux_lemma =>
        repeat' (first
            | refine rnC ?_
            | refine rnSB ?_
            | refine rnG ?_
            | refine rnU ?_
            | ((fail_if_success (refine rnKn ?_)); refine rnP ?_ ?_ <;> (intro hq; try (have hq' := hq; simp only [hqs] at hq')))
            | refine rkC ?_
            | refine rkSB ?_
            | refine rkF ?_
            | refine rkU ?_
            | ((fail_if_success (refine rkKn ?_)); refine rkP ?_ ?_ <;> (intro hq; try (have hq' := hq; simp only [hqs] at hq')))
            | refine stp ?_
            | refine aws_draws [] mixed (by kernel_rfl) ?_
            | refine ifT ?_
            | refine ifF ?_
            | (refine ifQ ?_ ?_ <;> (try (intro hn)))
            | (refine ifB ?_ ?_ <;> (intro hq; try (have hq' := hq; simp only [hqs] at hq'))))
        exact rt1 rfl rfl finS_p rfl
  · have d1 : decide ((i : Int) < (a.length : Int)) = false := decide_eq_false (by omega)
    rw [decide_eq_true (list_ext13 hl fun j hj => hx j (by omega))]
    as_aux_lemma =>
      repeat' (first
          | refine rnC ?_
          | refine rnSB ?_
          | refine rnG ?_
          | refine rnU ?_
          | ((fail_if_success (refine rnKn ?_)); refine rnP ?_ ?_ <;> (intro hq; try (have hq' := hq; simp only [hqs] at hq')))
          | refine rkC ?_
          | refine rkSB ?_
          | refine rkF ?_
          | refine rkU ?_
          | ((fail_if_success (refine rkKn ?_)); refine rkP ?_ ?_ <;> (intro hq; try (have hq' := hq; simp only [hqs] at hq')))
          | refine stp ?_
          | refine aws_draws [] mixed (by kernel_rfl) ?_
          | refine ifT ?_
          | refine ifF ?_
          | (refine ifQ ?_ ?_ <;> (try (intro hn)))
          | (refine ifB ?_ ?_ <;> (intro hq; try (have hq' := hq; simp only [hqs] at hq'))))
      exact rt1 rfl rfl finS_p rfl
instance same13_i {a b : List Int} {ea eb : Bool} : PC Tryz.prog 12 [.p (.sl 1 (a.map iR) ea), .p (.sl 1 (b.map iR) eb)] (a.length ≤ 1000000 ∧ b.length ≤ 1000000) (.p (.b (decide (a = b)))) := ⟨fun h => same13_w a b ea eb h.1 h.2⟩
abbrev refV (n r : Nat) (P O : List Int) : AV := .a [.p (.i n), .p (.i r), .p (.sl 1 (P.map uR) false), .p (.sl 1 (O.map iR) false)]
theorem refNew_w (n v r : Nat) (hn : n ≤ 8) (hv : v ≤ 16) : PCall Tryz.prog 9 [.p (.i n), .p (.i v), .p (.i r)] (refV n r ((pts n v).map (·.1)) ((pts n v).map (·.2))) := by
  refine pcall_of Tryz.func9 rfl (fun w0 F S0 M0 => ?_)
  obtain ⟨P, hP⟩ : ∃ P, P = (pts n v).map (·.1) := ⟨_, rfl⟩
  obtain ⟨O, hO⟩ : ∃ O, O = (pts n v).map (·.2) := ⟨_, rfl⟩
  rw [← hP, ← hO]
  haveI : PC Tryz.prog 31 [.p (.i n), .p (.i v)] True (.tup [.one (.p (.sl 1 (P.map uR) false)), .one (.p (.sl 1 (O.map iR) false))]) := ⟨fun _ => by rw [hP, hO]; exact refRing_w n v hn hv⟩
  clear hP hO
  as_aux_lemma =>
    repeat' (first
        | refine rnC ?_
        | refine rnSB ?_
        | refine rnG ?_
        | refine rnU ?_
        | ((fail_if_success (refine rnKn ?_)); refine rnP ?_ ?_ <;> (intro hq; try (have hq' := hq; simp only [hqs] at hq')))
        | refine rkC ?_
        | refine rkSB ?_
        | refine rkF ?_
        | refine rkU ?_
        | ((fail_if_success (refine rkKn ?_)); refine rkP ?_ ?_ <;> (intro hq; try (have hq' := hq; simp only [hqs] at hq')))
        | refine stp ?_
        | refine ifT ?_
        | refine ifF ?_
        | (refine ifQ ?_ ?_ <;> (try (intro hn)))
        | (refine ifB ?_ ?_ <;> (intro hq; try (have hq' := hq; simp only [hqs] at hq'))))
    exact rc1 rfl rfl rfl rfl rfl rfl finL_p rfl
instance refNew_i {n v r : Nat} : PC Tryz.prog 9 [.p (.i n), .p (.i v), .p (.i r)] (n ≤ 8 ∧ v ≤ 16) (refV n r ((pts n v).map (·.1)) ((pts n v).map (·.2))) := ⟨fun h => refNew_w n v r h.1 h.2⟩
/-- the list of a part, in the reference -/
theorem refPart_w (n v r : Nat) (part : Int) (hn : n ≤ 8) (hv : v ≤ 16) (hr : r ≤ 8) (hp : 0 ≤ part ∧ part < 8) : PCall Tryz.prog 36 [refV n r ((pts n v).map (·.1)) ((pts n v).map (·.2)), .p (.i part)] (.p (.sl 1 ((lstF n v r part).map iR) false)) := by
  refine pcall_of Tryz.func36 rfl (fun w0 F S0 M0 => ?_)
  obtain ⟨L, hL⟩ : ∃ L, L = pts n v := ⟨_, rfl⟩
  have hLl : L.length ≤ 128 := by rw [hL, pts_len]; have := Nat.mul_le_mul hn hv; omega
  have hR := refList_w L false false r part (by omega) (by omega) hp
  have hF : lstF n v r part = listF L r (2305843009213693952 * part) := by unfold lstF; rw [if_pos hp, ← hL]
  rw [← hF] at hR
  rw [← hL]
  clear hL hF hLl
  generalize L.map (·.1) = P at *
  generalize L.map (·.2) = O at *
  generalize lstF n v r part = l at *
  haveI : PC Tryz.prog 52 [.p (.sl 1 (P.map uR) false), .p (.sl 1 (O.map iR) false), .p (.i r), .p (.i part)] True (.p (.sl 1 (l.map iR) false)) := ⟨fun _ => hR⟩
  as_aux_lemma =>
    repeat' (first
        | refine rnC ?_
        | refine rnSB ?_
        | refine rnG ?_
        | refine rnU ?_
        | ((fail_if_success (refine rnKn ?_)); refine rnP ?_ ?_ <;> (intro hq; try (have hq' := hq; simp only [hqs] at hq')))
        | refine rkC ?_
        | refine rkSB ?_
        | refine rkF ?_
        | refine rkU ?_
        | ((fail_if_success (refine rkKn ?_)); refine rkP ?_ ?_ <;> (intro hq; try (have hq' := hq; simp only [hqs] at hq')))
        | refine stp ?_
        | refine ifT ?_
        | refine ifF ?_
        | (refine ifQ ?_ ?_ <;> (try (intro hn)))
        | (refine ifB ?_ ?_ <;> (intro hq; try (have hq' := hq; simp only [hqs] at hq'))))
    exact rt1 rfl rfl finS_p rfl
instance refPart_i {n v r : Nat} {part : Int} : PC Tryz.prog 36 [refV n r ((pts n v).map (·.1)) ((pts n v).map (·.2)), .p (.i part)] (n ≤ 8 ∧ v ≤ 16 ∧ r ≤ 8 ∧ 0 ≤ part ∧ part < 8) (.p (.sl 1 ((lstF n v r part).map iR) false)) := ⟨fun h => refPart_w n v r part h.1 h.2.1 h.2.2.1 h.2.2.2⟩
/-- the nodes that hold a key -/
def rtL (n v r : Nat) (k : List Nat) : List Int := if keyR k = true then lstF n v r (partF k) else []
theorem rtL_len (n v r : Nat) (k : List Nat) : (rtL n v r k).length ≤ r := by
  unfold rtL
  split
  · exact lstF_len _ _ _ _
  · exact Nat.zero_le _
theorem refList13_w (n v r : Nat) (k : List Nat) (hn : n ≤ 8) (hv : v ≤ 16) (hr : r ≤ 8) (hk : okB k) (hl : k.length ≤ 1000000) : PCall Tryz.prog 14 [refV n r ((pts n v).map (·.1)) ((pts n v).map (·.2)), strV k] (.p (.sl 1 ((rtL n v r k).map iR) false)) := by
  refine pcall_of Tryz.func14 rfl (fun w0 F S0 M0 => ?_)
  have hp := part_lt k
  have hR := refPart_w n v r (partF k) hn hv hr ⟨by omega, by omega⟩
  unfold rtL
  generalize (pts n v).map (·.1) = P at *
  generalize (pts n v).map (·.2) = O at *
  cases hq : keyR k with
  | false =>
    haveI : PC Tryz.prog 35 [strV k] True (.p (.b false)) := ⟨fun _ => by have := refKeyRight_w k hk hl; rwa [hq] at this⟩
    rw [if_neg (by simp)]
    as_aux_lemma =>
      repeat' (first
          | refine rnC ?_
          | refine rnSB ?_
          | refine rnG ?_
          | refine rnU ?_
          | ((fail_if_success (refine rnKn ?_)); refine rnP ?_ ?_ <;> (intro hq; try (have hq' := hq; simp only [hqs] at hq')))
          | refine rkC ?_
          | refine rkSB ?_
          | refine rkF ?_
          | refine rkU ?_
          | ((fail_if_success (refine rkKn ?_)); refine rkP ?_ ?_ <;> (intro hq; try (have hq' := hq; simp only [hqs] at hq')))
          | refine stp ?_
          | refine aws_draws [] mixed (by kernel_rfl) ?_
          | refine ifT ?_
          | refine ifF ?_
          | (refine ifQ ?_ ?_ <;> (try (intro hn)))
          | (refine ifB ?_ ?_ <;> (intro hq; try (have hq' := hq; simp only [hqs] at hq'))))
      exact rt1 rfl rfl (.one .nil) rfl
  | true =>
    haveI : PC Tryz.prog 35 [strV k] True (.p (.b true)) := ⟨fun _ => by have := refKeyRight_w k hk hl; rwa [hq] at this⟩
    rw [if_pos rfl]
    generalize lstF n v r (partF k) = l at *
    haveI : PC Tryz.prog 36 [refV n r P O, .p (.i (partF k : Int))] True (.p (.sl 1 (l.map iR) false)) := ⟨fun _ => hR⟩
    as_aux_lemma =>
      repeat' (first
          | refine rnC ?_
          | refine rnSB ?_
          | refine rnG ?_
          | refine rnU ?_
          | ((fail_if_success (refine rnKn ?_)); refine rnP ?_ ?_ <;> (intro hq; try (have hq' := hq; simp only [hqs] at hq')))
          | refine rkC ?_
          | refine rkSB ?_
          | refine rkF ?_
          | refine rkU ?_
          | ((fail_if_success (refine rkKn ?_)); refine rkP ?_ ?_ <;> (intro hq; try (have hq' := hq; simp only [hqs] at hq')))
          | refine stp ?_
          | refine aws_draws [] mixed (by kernel_rfl) ?_
          | refine ifT ?_
          | refine ifF ?_
          | (refine ifQ ?_ ?_ <;> (try (intro hn)))
          | (refine ifB ?_ ?_ <;> (intro hq; try (have hq' := hq; simp only [hqs] at hq'))))
      exact rt1 rfl rfl finS_p rfl
instance refList13_i {n v r : Nat} {k : List Nat} : PC Tryz.prog 14 [refV n r ((pts n v).map (·.1)) ((pts n v).map (·.2)), strV k] (n ≤ 8 ∧ v ≤ 16 ∧ r ≤ 8 ∧ okB k ∧ k.length ≤ 1000000) (.p (.sl 1 ((rtL n v r k).map iR) false)) := ⟨fun h => refList13_w n v r k h.1 h.2.1 h.2.2.1 h.2.2.2.1 h.2.2.2.2⟩
end Go.Proofs.YthhlcdacmlnjdaaGreat.Rg
