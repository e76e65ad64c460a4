/- the reference, chapter 05: tallies -/
import Derived.Test.YtpmobjnaiaogbaaGreatCr2
namespace Go.Proofs.YtpmobjnaiaogbaaGreat.Ct
open Go Go.RowKit Go.Aw Go.Aw.Cart Go.Aw.Ord Go.Proofs.YtpmobjnaiaogbaaGreat.Ca
set_option linter.unusedVariables false
set_option linter.unusedSimpArgs false
set_option maxRecDepth 8000
set_option maxHeartbeats 4000000
theorem wrap64 {n : Int} : IntKind.u64.wrap n = n % 18446744073709551616 := by simp [IntKind.wrap, IntKind.bits, IntKind.signed]
theorem lop_conv64 {C : Ctx} {o : Oper} {σ : St} {s d : TypeId} {x : Operand} {sz by_ : Nat} {ks : TK} {sz' by' : Nat} {k : IntKind} {n : Int} (ho : o.op = .convert s d x) (hT : TI C.P d (.int .u64) sz by_) (hS : TI C.P s ks sz' by') (hx : σ.look x = .p (.v (.int k n))) (hd : dOk C o.dst = true) :
    LOp C o σ ⟨.p (.v (.int .u64 (n % 18446744073709551616))), []⟩ (fun _ => false) := by
  have := lop_conv ho hx hd
  rwa [wrap64] at this
theorem lop_sub64 {C : Ctx} {o : Oper} {σ : St} {t t' : TypeId} {x y : Operand} {m n r : Int} (ho : o.op = .binOp .sub t x y t') (hx : σ.look x = .p (.v (.int .u64 m))) (hy : σ.look y = .p (.v (.int .u64 n))) (hr : (m - n) % 18446744073709551616 = r) (hd : dOk C o.dst = true) :
    LOp C o σ ⟨.p (.v (.int .u64 r)), []⟩ (fun _ => false) := by
  have := lop_sub ho hx hy hd
  rwa [wrap64, hr] at this
namespace R8
theorem lopC {C : Ctx} {o : Oper} {σ : St} {e : Eff} {ro : Nat → Bool} (h : LOp C o σ e ro := by
    first
      | (apply lop_conv64; (focus rfl); (focus exact inferInstance); (focus exact inferInstance); (focus rfl); (focus rfl))
      | (apply lop_sub64; (focus rfl); (focus rfl); (focus rfl); (focus assumption); (focus rfl))
      | exact Go.Proofs.YtpmobjnaiaogbaaGreat.Cr.lopC
      | fail) : LOp C o σ e ro := h
section steps
variable {C : Ctx} {ops : Array Oper} {o : Oper} {rest : List Oper} {K : St → Prop} {σ : St} {e : Eff} {ro : Nat → Bool} {W : List (Nat × Nat)} {i : Nat}
theorem rnC {d : Nat} (hk : RunN C ops rest K (e.app (some d) σ)) (hg : Guard ops σ o true := by first | exact gd_n rfl rfl | exact gd_t rfl rfl rfl rfl | exact gd_t rfl rfl rfl (by assumption)) (hd : o.dst = some d := by rfl) (h : LOp C o σ e ro := by exact lopC) : RunN C ops (o :: rest) K σ := rn_any hg hd h hk
theorem rkC {d : Nat} (hk : RunK C ops W (i + 1) rest K (e.app (some d) σ)) (hg : Guard ops σ o true := by first | exact gd_n rfl rfl | exact gd_t rfl rfl rfl rfl | exact gd_t rfl rfl rfl (by assumption)) (hd' : o.dst = some d := by rfl) (hd : dOk C o.dst = true := by rfl) (h : LOp C o σ e ro := by exact lopC)
    (hro : ∀ x, ro x = true → okObj ops W i x = true := by first | exact fun _ => ro_none | exact ro_one rfl | exact ro_one (by kernel_rfl) | exact ro_kIn (by decide)) (hob : ∀ p ∈ e.obj, (i, p.1) ∈ W := by first | exact ob_none | exact ob_one (by decide) | decide) : RunK C ops W i (o :: rest) K σ := rk_wr hg hd' hd h hro hob hk
end steps
end R8
open R8
theorem moreF_is {a b : Int} (ha : 0 ≤ a) (hb : 0 ≤ b) : moreF a b = if 4611686018427387904 ≤ a ∨ 4611686018427387904 ≤ b ∨ 4611686018427387904 ≤ a + b then 4611686018427387904 else a + b := by
  unfold moreF mnF
  split
  · repeat' split
    all_goals omega
  · repeat' split
    all_goals omega
theorem plus_r (a b : Int) (ha : 0 ≤ a ∧ a < 18446744073709551616) (hb : 0 ≤ b ∧ b < 18446744073709551616) : PCall Tryz.prog 72 [.p (.k .u64 a), .p (.k .u64 b)] (.p (.k .u64 (moreF a b))) := by
  refine pcall_of Tryz.func72 rfl (fun w0 F S0 M0 => ?_)
  obtain ⟨a0, a1⟩ := ha
  obtain ⟨b0, b1⟩ := hb
  rw [moreF_is a0 b0]
  by_cases h1 : 4611686018427387904 ≤ a
  · have d1 : decide (4611686018427387904 ≤ a) = true := decide_eq_true h1
    rw [if_pos (.inl h1)]
    as_aux_lemma =>
      repeat' (first
          | refine rnC ?_
          | refine rnSB ?_
          | refine rnG ?_
          | refine rnU ?_
          | ((fail_if_success (refine rnKn ?_)); refine rnP ?_ ?_ <;> (intro hq; try (have hq' := hq; simp only [hqs] at hq')))
          | refine rkC ?_
          | refine rkSB ?_
          | refine rkF ?_
          | refine rkU ?_
          | ((fail_if_success (refine rkKn ?_)); refine rkP ?_ ?_ <;> (intro hq; try (have hq' := hq; simp only [hqs] at hq')))
          | refine stp ?_
          | refine aws_draws [] mixed (by kernel_rfl) ?_
          | refine ifT ?_
          | refine ifF ?_
          | (refine ifQ ?_ ?_ <;> (try (intro hn)))
          | (refine ifB ?_ ?_ <;> (intro hq; try (have hq' := hq; simp only [hqs] at hq'))))
      exact rt1 rfl rfl finS_p rfl
  · have d1 : decide (4611686018427387904 ≤ a) = false := decide_eq_false h1
    by_cases h2 : 4611686018427387904 ≤ b
    · have d2 : decide (4611686018427387904 ≤ b) = true := decide_eq_true h2
      rw [if_pos (.inr (.inl h2))]
      as_aux_lemma =>
        repeat' (first
            | refine rnC ?_
            | refine rnSB ?_
            | refine rnG ?_
            | refine rnU ?_
            | ((fail_if_success (refine rnKn ?_)); refine rnP ?_ ?_ <;> (intro hq; try (have hq' := hq; simp only [hqs] at hq')))
            | refine rkC ?_
            | refine rkSB ?_
            | refine rkF ?_
            | refine rkU ?_
            | ((fail_if_success (refine rkKn ?_)); refine rkP ?_ ?_ <;> (intro hq; try (have hq' := hq; simp only [hqs] at hq')))
            | refine stp ?_
            | refine aws_draws [] mixed (by kernel_rfl) ?_
            | refine ifT ?_
            | refine ifF ?_
            | (refine ifQ ?_ ?_ <;> (try (intro hn)))
            | (refine ifB ?_ ?_ <;> (intro hq; try (have hq' := hq; simp only [hqs] at hq'))))
        exact rt1 rfl rfl finS_p rfl
    · have d2 : decide (4611686018427387904 ≤ b) = false := decide_eq_false h2
      by_cases h3 : 4611686018427387904 ≤ a + b
      · have d3 : decide (4611686018427387904 ≤ a + b) = true := decide_eq_true h3
        rw [if_pos (.inr (.inr h3))]
        as_aux_lemma =>
          repeat' (first
              | refine rnC ?_
              | refine rnSB ?_
              | refine rnG ?_
              | refine rnU ?_
              | ((fail_if_success (refine rnKn ?_)); refine rnP ?_ ?_ <;> (intro hq; try (have hq' := hq; simp only [hqs] at hq')))
              | refine rkC ?_
              | refine rkSB ?_
              | refine rkF ?_
              | refine rkU ?_
              | ((fail_if_success (refine rkKn ?_)); refine rkP ?_ ?_ <;> (intro hq; try (have hq' := hq; simp only [hqs] at hq')))
              | refine stp ?_
              | refine aws_draws [] mixed (by kernel_rfl) ?_
              | refine ifT ?_
              | refine ifF ?_
              | (refine ifQ ?_ ?_ <;> (try (intro hn)))
              | (refine ifB ?_ ?_ <;> (intro hq; try (have hq' := hq; simp only [hqs] at hq'))))
          exact rt1 rfl rfl finS_p rfl
      · have d3 : decide (4611686018427387904 ≤ a + b) = false := decide_eq_false h3
        rw [if_neg (by omega)]
        as_aux_lemma =>
          repeat' (first
              | refine rnC ?_
              | refine rnSB ?_
              | refine rnG ?_
              | refine rnU ?_
              | ((fail_if_success (refine rnKn ?_)); refine rnP ?_ ?_ <;> (intro hq; try (have hq' := hq; simp only [hqs] at hq')))
              | refine rkC ?_
              | refine rkSB ?_
              | refine rkF ?_
              | refine rkU ?_
              | ((fail_if_success (refine rkKn ?_)); refine rkP ?_ ?_ <;> (intro hq; try (have hq' := hq; simp only [hqs] at hq')))
              | refine stp ?_
              | refine aws_draws [] mixed (by kernel_rfl) ?_
              | refine ifT ?_
              | refine ifF ?_
              | (refine ifQ ?_ ?_ <;> (try (intro hn)))
              | (refine ifB ?_ ?_ <;> (intro hq; try (have hq' := hq; simp only [hqs] at hq'))))
          exact rt1 rfl rfl finS_p rfl
instance plus_i {a b : Int} : PC Tryz.prog 72 [.p (.k .u64 a), .p (.k .u64 b)] ((0 ≤ a ∧ a < 18446744073709551616) ∧ (0 ≤ b ∧ b < 18446744073709551616)) (.p (.k .u64 (moreF a b))) := ⟨fun h => plus_r a b h.1 h.2⟩
theorem add_r (t : Int × Int) (n : Int) (h1 : 0 ≤ t.1 ∧ t.1 < 18446744073709551616) (h2 : 0 ≤ t.2 ∧ t.2 < 18446744073709551616) (hn : -9223372036854775808 ≤ n ∧ n ≤ 9223372036854775807) : PCall Tryz.prog 44 [tV t, .p (.i n)] (tV (addF t n)) := by
  refine pcall_of Tryz.func44 rfl (fun w0 F S0 M0 => ?_)
  obtain ⟨n1, n2⟩ := hn
  have z0 : (0 : Int) ≤ 0 := Int.le_refl _
  have z1 : (0 : Int) < 18446744073709551616 := by decide
  unfold addF plusF ofT
  by_cases h : n < 0
  · have d1 : decide (n < 0) = true := decide_eq_true h
    rw [if_pos h]
    have e : (0 - n % 18446744073709551616) % 18446744073709551616 = 0 - (n + 1) + 1 := by omega
    have e1 : 0 ≤ 0 - (n + 1) + 1 := by omega
    have e2 : 0 - (n + 1) + 1 < 18446744073709551616 := by omega
    repeat' (first
        | refine rnC ?_
        | refine rnSB ?_
        | refine rnG ?_
        | refine rnU ?_
        | ((fail_if_success (refine rnKn ?_)); refine rnP ?_ ?_ <;> (intro hq; try (have hq' := hq; simp only [hqs] at hq')))
        | refine rkC ?_
        | refine rkSB ?_
        | refine rkF ?_
        | refine rkU ?_
        | ((fail_if_success (refine rkKn ?_)); refine rkP ?_ ?_ <;> (intro hq; try (have hq' := hq; simp only [hqs] at hq')))
        | refine stp ?_
        | refine ifT ?_
        | refine ifF ?_
        | (refine ifQ ?_ ?_ <;> (try (intro hn)))
        | (refine ifB ?_ ?_ <;> (intro hq; try (have hq' := hq; simp only [hqs] at hq'))))
    refine aws_draws [(10, 4)] mixed (by kernel_rfl) ?_
    repeat' (first
        | refine rk_nil ?_
        | refine rkC ?_
        | refine rkSB ?_
        | refine rkF ?_
        | refine rkU ?_
        | ((fail_if_success (refine rkKn ?_)); refine rkP ?_ ?_ <;> (intro hq; try (have hq' := hq; simp only [hqs] at hq'))))
    as_aux_lemma =>
      repeat' (first
          | refine rnC ?_
          | refine rnSB ?_
          | refine rnG ?_
          | refine rnU ?_
          | ((fail_if_success (refine rnKn ?_)); refine rnP ?_ ?_ <;> (intro hq; try (have hq' := hq; simp only [hqs] at hq')))
          | refine rkC ?_
          | refine rkSB ?_
          | refine rkF ?_
          | refine rkU ?_
          | ((fail_if_success (refine rkKn ?_)); refine rkP ?_ ?_ <;> (intro hq; try (have hq' := hq; simp only [hqs] at hq')))
          | refine stp ?_
          | refine ifT ?_
          | refine ifF ?_
          | (refine ifQ ?_ ?_ <;> (try (intro hn)))
          | (refine ifB ?_ ?_ <;> (intro hq; try (have hq' := hq; simp only [hqs] at hq'))))
      exact rc1 rfl rfl rfl rfl rfl rfl finL_p rfl
  · have d1 : decide (n < 0) = false := decide_eq_false h
    rw [if_neg h]
    have e : n % 18446744073709551616 = n := by omega
    have e1 : 0 ≤ n % 18446744073709551616 := by omega
    have e2 : n % 18446744073709551616 < 18446744073709551616 := by omega
    rw [show moreF t.1 (n, (0 : Int)).1 = moreF t.1 (n % 18446744073709551616) by rw [e]]
    repeat' (first
        | refine rnC ?_
        | refine rnSB ?_
        | refine rnG ?_
        | refine rnU ?_
        | ((fail_if_success (refine rnKn ?_)); refine rnP ?_ ?_ <;> (intro hq; try (have hq' := hq; simp only [hqs] at hq')))
        | refine rkC ?_
        | refine rkSB ?_
        | refine rkF ?_
        | refine rkU ?_
        | ((fail_if_success (refine rkKn ?_)); refine rkP ?_ ?_ <;> (intro hq; try (have hq' := hq; simp only [hqs] at hq')))
        | refine stp ?_
        | refine ifT ?_
        | refine ifF ?_
        | (refine ifQ ?_ ?_ <;> (try (intro hn)))
        | (refine ifB ?_ ?_ <;> (intro hq; try (have hq' := hq; simp only [hqs] at hq'))))
    refine aws_draws [(9, 4)] mixed (by kernel_rfl) ?_
    repeat' (first
        | refine rk_nil ?_
        | refine rkC ?_
        | refine rkSB ?_
        | refine rkF ?_
        | refine rkU ?_
        | ((fail_if_success (refine rkKn ?_)); refine rkP ?_ ?_ <;> (intro hq; try (have hq' := hq; simp only [hqs] at hq'))))
    as_aux_lemma =>
      repeat' (first
          | refine rnC ?_
          | refine rnSB ?_
          | refine rnG ?_
          | refine rnU ?_
          | ((fail_if_success (refine rnKn ?_)); refine rnP ?_ ?_ <;> (intro hq; try (have hq' := hq; simp only [hqs] at hq')))
          | refine rkC ?_
          | refine rkSB ?_
          | refine rkF ?_
          | refine rkU ?_
          | ((fail_if_success (refine rkKn ?_)); refine rkP ?_ ?_ <;> (intro hq; try (have hq' := hq; simp only [hqs] at hq')))
          | refine stp ?_
          | refine ifT ?_
          | refine ifF ?_
          | (refine ifQ ?_ ?_ <;> (try (intro hn)))
          | (refine ifB ?_ ?_ <;> (intro hq; try (have hq' := hq; simp only [hqs] at hq'))))
      exact rc1 rfl rfl rfl rfl rfl rfl finL_p rfl
instance add_i {t : Int × Int} {n : Int} : PC Tryz.prog 44 [tV t, .p (.i n)] ((0 ≤ t.1 ∧ t.1 < 18446744073709551616) ∧ (0 ≤ t.2 ∧ t.2 < 18446744073709551616) ∧ -9223372036854775808 ≤ n ∧ n ≤ 9223372036854775807) (tV (addF t n)) := ⟨fun h => add_r t n h.1 h.2.1 h.2.2⟩
theorem value5_r (t : Int × Int) (h1 : 0 ≤ t.1 ∧ t.1 < 18446744073709551616) (h2 : 0 ≤ t.2) : PCall Tryz.prog 45 [tV t] (.p (.k .u64 (valF t))) := by
  refine pcall_of Tryz.func45 rfl (fun w0 F S0 M0 => ?_)
  unfold valF
  obtain ⟨h3, h4⟩ := h1
  by_cases h : t.2 < t.1
  · have d1 : decide (t.2 < t.1) = true := decide_eq_true h
    rw [if_neg (by omega)]
    have e : (t.1 - t.2) % 18446744073709551616 = t.1 - t.2 := by omega
    as_aux_lemma =>
      repeat' (first
          | refine rnC ?_
          | refine rnSB ?_
          | refine rnG ?_
          | refine rnU ?_
          | ((fail_if_success (refine rnKn ?_)); refine rnP ?_ ?_ <;> (intro hq; try (have hq' := hq; simp only [hqs] at hq')))
          | refine rkC ?_
          | refine rkSB ?_
          | refine rkF ?_
          | refine rkU ?_
          | ((fail_if_success (refine rkKn ?_)); refine rkP ?_ ?_ <;> (intro hq; try (have hq' := hq; simp only [hqs] at hq')))
          | refine stp ?_
          | refine aws_draws [] mixed (by kernel_rfl) ?_
          | refine ifT ?_
          | refine ifF ?_
          | (refine ifQ ?_ ?_ <;> (try (intro hn)))
          | (refine ifB ?_ ?_ <;> (intro hq; try (have hq' := hq; simp only [hqs] at hq'))))
      exact rt1 rfl rfl finS_p rfl
  · have d1 : decide (t.2 < t.1) = false := decide_eq_false h
    rw [if_pos (by omega)]
    as_aux_lemma =>
      repeat' (first
          | refine rnC ?_
          | refine rnSB ?_
          | refine rnG ?_
          | refine rnU ?_
          | ((fail_if_success (refine rnKn ?_)); refine rnP ?_ ?_ <;> (intro hq; try (have hq' := hq; simp only [hqs] at hq')))
          | refine rkC ?_
          | refine rkSB ?_
          | refine rkF ?_
          | refine rkU ?_
          | ((fail_if_success (refine rkKn ?_)); refine rkP ?_ ?_ <;> (intro hq; try (have hq' := hq; simp only [hqs] at hq')))
          | refine stp ?_
          | refine aws_draws [] mixed (by kernel_rfl) ?_
          | refine ifT ?_
          | refine ifF ?_
          | (refine ifQ ?_ ?_ <;> (try (intro hn)))
          | (refine ifB ?_ ?_ <;> (intro hq; try (have hq' := hq; simp only [hqs] at hq'))))
      exact rt1 rfl rfl finS_p rfl
instance value5_i {t : Int × Int} : PC Tryz.prog 45 [tV t] ((0 ≤ t.1 ∧ t.1 < 18446744073709551616) ∧ 0 ≤ t.2) (.p (.k .u64 (valF t))) := ⟨fun h => value5_r t h.1 h.2⟩
end Go.Proofs.YtpmobjnaiaogbaaGreat.Ct
