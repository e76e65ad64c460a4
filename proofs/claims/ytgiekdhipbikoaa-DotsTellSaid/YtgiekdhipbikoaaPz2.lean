/- the reference, chapter 04: dots one by one as a set; equal lists; dots as the reference's; the reference, chapter 05: tallies; the reference, chapter 06: what a cart has, is worth, and what is off; the reference, chapters 03 and 07: the next dot, vectors with a dot; ops, which may be, which entries stay; ops and events as the reference's -/
import Derived.Test.YtgiekdhipbikoaaPz1
import Derived.Test.YtgiekdhipbikoaaCj3
import Derived.Test.YtgiekdhipbikoaaCe1
namespace Go.Proofs.Ytgiekdhipbikoaa.Cd
open Go Go.RowKit Go.Aw Go.Aw.Cart Go.Aw.Ord Go.Proofs.Ytgiekdhipbikoaa.Ca
set_option linter.unusedVariables false
set_option linter.unusedSimpArgs false
set_option maxRecDepth 8000
set_option maxHeartbeats 4000000
namespace R7
theorem lopC {C : Ctx} {o : Oper} {σ : St} {e : Eff} {ro : Nat → Bool} (h : LOp C o σ e ro := by
    first
      | (apply lop_ap_pair; (focus rfl); (focus exact inferInstance); (focus exact inferInstance); (focus exact inferInstance); (focus rfl); (focus rfl); (focus rfl); (focus rfl); (focus rfl); (focus rfl); (focus first | (simp only [maxLen, List.length_append, List.length_cons, List.length_nil, List.length_take, List.length_drop, List.length_map]; omega) | omega); (focus first | (simp only [maxLen, List.length_append, List.length_cons, List.length_nil, List.length_take, List.length_drop, List.length_map]; omega) | omega); (focus rfl))
      | exact Go.Proofs.Ytgiekdhipbikoaa.Cr.lopC
      | fail) : LOp C o σ e ro := h
section steps
variable {C : Ctx} {ops : Array Oper} {o : Oper} {rest : List Oper} {K : St → Prop} {σ : St} {e : Eff} {ro : Nat → Bool} {W : List (Nat × Nat)} {i : Nat}
theorem rnC {d : Nat} (hk : RunN C ops rest K (e.app (some d) σ)) (hg : Guard ops σ o true := by first | exact gd_n rfl rfl | exact gd_t rfl rfl rfl rfl | exact gd_t rfl rfl rfl (by assumption)) (hd : o.dst = some d := by rfl) (h : LOp C o σ e ro := by exact lopC) : RunN C ops (o :: rest) K σ := rn_any hg hd h hk
theorem rkC {d : Nat} (hk : RunK C ops W (i + 1) rest K (e.app (some d) σ)) (hg : Guard ops σ o true := by first | exact gd_n rfl rfl | exact gd_t rfl rfl rfl rfl | exact gd_t rfl rfl rfl (by assumption)) (hd' : o.dst = some d := by rfl) (hd : dOk C o.dst = true := by rfl) (h : LOp C o σ e ro := by exact lopC)
    (hro : ∀ x, ro x = true → okObj ops W i x = true := by first | exact fun _ => ro_none | exact ro_one rfl | exact ro_k1 rfl | exact ro_one (by kernel_rfl) | exact ro_k1 (by kernel_rfl) | exact ro_kIn (by decide)) (hob : ∀ p ∈ e.obj, (i, p.1) ∈ W := by first | exact ob_none | exact ob_one (by decide) | decide) : RunK C ops W i (o :: rest) K σ := rk_wr hg hd' hd h hro hob hk
end steps
end R7
open R7
theorem has4_r (l : List Dot) (ex : Bool) (d : Dot) (h : l.length ≤ 1000000000) : PCall Try.prog 16 [.p (.sl 2 (l.map dR) ex), dV d] (.p (.b (decide (d ∈ l)))) := by
  refine pcall_of Try.func16 rfl (fun w0 F S0 M0 => ?_)
  repeat' (first
      | refine rnC ?_
      | refine rnSB ?_
      | refine rnG ?_
      | refine rnU ?_
      | ((fail_if_success (refine rnKn ?_)); refine rnP ?_ ?_ <;> (intro hq; try (have hq' := hq; simp only [hqs] at hq')))
      | refine rkC ?_
      | refine rkSB ?_
      | refine rkF ?_
      | refine rkU ?_
      | ((fail_if_success (refine rkKn ?_)); refine rkP ?_ ?_ <;> (intro hq; try (have hq' := hq; simp only [hqs] at hq')))
      | refine stp ?_
      | refine aws_draws [] mixed (by kernel_rfl) ?_
      | refine ifT ?_
      | refine ifF ?_
      | (refine ifQ ?_ ?_ <;> (try (intro hn)))
      | (refine ifB ?_ ?_ <;> (intro hq; try (have hq' := hq; simp only [hqs] at hq'))))
  refine aws_loopS [4, 5, 6, 7, 8, 9, 10, 11, 12, 13, 14, 15, 16, 17] [] (fun (i : Nat) => [(5, .p (.i i))]) (fun _ => []) (fun i => i ≤ l.length ∧ ∀ j, j < i → l.getD j default ≠ d) (fun i => l.length - i) 0 ⟨Nat.zero_le _, fun j hj => absurd hj (Nat.not_lt_zero _)⟩ (by exact knA) (by exact knA) ?_
  rintro i β γ ⟨hi, hx⟩
  by_cases hil : i < l.length
  · have hlt : decide ((i : Int) < (l.length : Int)) = true := decide_eq_true (by omega)
    have hd := vEqD (l.getD (i : Int).toNat default) d
    by_cases hq : l.getD (i : Int).toNat default = d
    · rw [decide_eq_true hq] at hd
      rw [decide_eq_true (show d ∈ l by rw [← hq, Int.toNat_natCast, getD_at hil]; exact List.getElem_mem _)]
      as_aux_lemma =>
        repeat' (first
            | refine rnC ?_
            | refine rnSB ?_
            | refine rnG ?_
            | refine rnU ?_
            | ((fail_if_success (refine rnKn ?_)); refine rnP ?_ ?_ <;> (intro hq; try (have hq' := hq; simp only [hqs] at hq')))
            | refine rkC ?_
            | refine rkSB ?_
            | refine rkF ?_
            | refine rkU ?_
            | ((fail_if_success (refine rkKn ?_)); refine rkP ?_ ?_ <;> (intro hq; try (have hq' := hq; simp only [hqs] at hq')))
            | refine stp ?_
            | refine aws_draws [] mixed (by kernel_rfl) ?_
            | refine ifT ?_
            | refine ifF ?_
            | (refine ifQ ?_ ?_ <;> (try (intro hn)))
            | (refine ifB ?_ ?_ <;> (intro hq; try (have hq' := hq; simp only [hqs] at hq'))))
        exact rt1 rfl rfl finS_p rfl
    · rw [decide_eq_false hq] at hd
      rw [Int.toNat_natCast] at hq
      repeat' (first
          | refine rnC ?_
          | refine rnSB ?_
          | refine rnG ?_
          | refine rnU ?_
          | ((fail_if_success (refine rnKn ?_)); refine rnP ?_ ?_ <;> (intro hq; try (have hq' := hq; simp only [hqs] at hq')))
          | refine rkC ?_
          | refine rkSB ?_
          | refine rkF ?_
          | refine rkU ?_
          | ((fail_if_success (refine rkKn ?_)); refine rkP ?_ ?_ <;> (intro hq; try (have hq' := hq; simp only [hqs] at hq')))
          | refine stp ?_
          | refine aws_draws [] mixed (by kernel_rfl) ?_
          | refine ifT ?_
          | refine ifF ?_
          | (refine ifQ ?_ ?_ <;> (try (intro hn)))
          | (refine ifB ?_ ?_ <;> (intro hq; try (have hq' := hq; simp only [hqs] at hq'))))
      refine ⟨i + 1, _, by omega, ⟨by omega, fun j hj => ?_⟩, .refl, by exact frA⟩
      by_cases ej : j = i
      · rw [ej]; exact hq
      · exact hx j (by omega)
  · have hlt : decide ((i : Int) < (l.length : Int)) = false := decide_eq_false (by omega)
    rw [decide_eq_false (show d ∉ l from fun k => by
      obtain ⟨j, hj, q⟩ := getD_mem k
      exact hx j (by omega) q)]
    as_aux_lemma =>
      repeat' (first
          | refine rnC ?_
          | refine rnSB ?_
          | refine rnG ?_
          | refine rnU ?_
          | ((fail_if_success (refine rnKn ?_)); refine rnP ?_ ?_ <;> (intro hq; try (have hq' := hq; simp only [hqs] at hq')))
          | refine rkC ?_
          | refine rkSB ?_
          | refine rkF ?_
          | refine rkU ?_
          | ((fail_if_success (refine rkKn ?_)); refine rkP ?_ ?_ <;> (intro hq; try (have hq' := hq; simp only [hqs] at hq')))
          | refine stp ?_
          | refine aws_draws [] mixed (by kernel_rfl) ?_
          | refine ifT ?_
          | refine ifF ?_
          | (refine ifQ ?_ ?_ <;> (try (intro hn)))
          | (refine ifB ?_ ?_ <;> (intro hq; try (have hq' := hq; simp only [hqs] at hq'))))
      exact rt1 rfl rfl finS_p rfl
instance has4_i {l : List Dot} {ex : Bool} {d : Dot} : PC Try.prog 16 [.p (.sl 2 (l.map dR) ex), dV d] (l.length ≤ 1000000000) (.p (.b (decide (d ∈ l)))) := ⟨has4_r l ex d⟩
theorem insert_r (l : List Dot) (d : Dot) (h : l.length ≤ 1000000000) : PCall Try.prog 59 [.p (.sl 2 (l.map dR) false), dV d] (.p (.sl 2 ((insD l d).map dR) false)) := by
  refine pcall_of Try.func59 rfl (fun w0 F S0 M0 => ?_)
  unfold insD
  cases hd : dotF d with
  | false =>
    have d1 : (!dotF d) = true := by rw [hd]; rfl
    rw [if_pos (.inl rfl)]
    as_aux_lemma =>
      repeat' (first
          | refine rnC ?_
          | refine rnSB ?_
          | refine rnG ?_
          | refine rnU ?_
          | ((fail_if_success (refine rnKn ?_)); refine rnP ?_ ?_ <;> (intro hq; try (have hq' := hq; simp only [hqs] at hq')))
          | refine rkC ?_
          | refine rkSB ?_
          | refine rkF ?_
          | refine rkU ?_
          | ((fail_if_success (refine rkKn ?_)); refine rkP ?_ ?_ <;> (intro hq; try (have hq' := hq; simp only [hqs] at hq')))
          | refine stp ?_
          | refine aws_draws [] mixed (by kernel_rfl) ?_
          | refine ifT ?_
          | refine ifF ?_
          | (refine ifQ ?_ ?_ <;> (try (intro hn)))
          | (refine ifB ?_ ?_ <;> (intro hq; try (have hq' := hq; simp only [hqs] at hq'))))
      exact rt1 rfl rfl finS_p rfl
  | true =>
    have d1 : (!dotF d) = false := by rw [hd]; rfl
    by_cases hm : d ∈ l
    · have d2 : decide (d ∈ l) = true := decide_eq_true hm
      rw [if_pos (.inr hm)]
      as_aux_lemma =>
        repeat' (first
            | refine rnC ?_
            | refine rnSB ?_
            | refine rnG ?_
            | refine rnU ?_
            | ((fail_if_success (refine rnKn ?_)); refine rnP ?_ ?_ <;> (intro hq; try (have hq' := hq; simp only [hqs] at hq')))
            | refine rkC ?_
            | refine rkSB ?_
            | refine rkF ?_
            | refine rkU ?_
            | ((fail_if_success (refine rkKn ?_)); refine rkP ?_ ?_ <;> (intro hq; try (have hq' := hq; simp only [hqs] at hq')))
            | refine stp ?_
            | refine aws_draws [] mixed (by kernel_rfl) ?_
            | refine ifT ?_
            | refine ifF ?_
            | (refine ifQ ?_ ?_ <;> (try (intro hn)))
            | (refine ifB ?_ ?_ <;> (intro hq; try (have hq' := hq; simp only [hqs] at hq'))))
        exact rt1 rfl rfl finS_p rfl
    · have d2 : decide (d ∈ l) = false := decide_eq_false hm
      rw [if_neg (fun k => k.elim (fun q => by cases q) hm)]
      have hle := atI_le (lt := ltD) (e := d) (l := l)
      repeat' (first
          | refine rnC ?_
          | refine rnSB ?_
          | refine rnG ?_
          | refine rnU ?_
          | ((fail_if_success (refine rnKn ?_)); refine rnP ?_ ?_ <;> (intro hq; try (have hq' := hq; simp only [hqs] at hq')))
          | refine rkC ?_
          | refine rkSB ?_
          | refine rkF ?_
          | refine rkU ?_
          | ((fail_if_success (refine rkKn ?_)); refine rkP ?_ ?_ <;> (intro hq; try (have hq' := hq; simp only [hqs] at hq')))
          | refine stp ?_
          | refine aws_draws [] mixed (by kernel_rfl) ?_
          | refine ifT ?_
          | refine ifF ?_
          | (refine ifQ ?_ ?_ <;> (try (intro hn)))
          | (refine ifB ?_ ?_ <;> (intro hq; try (have hq' := hq; simp only [hqs] at hq'))))
      refine aws_loopS [5, 16, 17, 18, 19, 20, 21, 22, 23, 24, 25, 26, 27, 28, 29] [] (fun (k : Nat) => [(5, .p (.i k))]) (fun _ => []) (fun k => k ≤ atI ltD d l) (fun k => l.length - k) 0 (Nat.zero_le _) (by exact knA) (by exact knA) ?_
      intro k β γ hk
      by_cases hkl : k < l.length
      · have t1 : decide ((k : Int) < (l.length : Int)) = true := decide_eq_true (by omega)
        by_cases hlt : ltD (l.getD (k : Int).toNat default) d
        · have t2 : decide (ltD (l.getD (k : Int).toNat default) d) = true := decide_eq_true hlt
          have hk' := atI_go hk hkl (by rw [Int.toNat_natCast] at hlt; exact hlt)
          as_aux_lemma =>
            repeat' (first
                | refine rnC ?_
                | refine rnSB ?_
                | refine rnG ?_
                | refine rnU ?_
                | ((fail_if_success (refine rnKn ?_)); refine rnP ?_ ?_ <;> (intro hq; try (have hq' := hq; simp only [hqs] at hq')))
                | refine rkC ?_
                | refine rkSB ?_
                | refine rkF ?_
                | refine rkU ?_
                | ((fail_if_success (refine rkKn ?_)); refine rkP ?_ ?_ <;> (intro hq; try (have hq' := hq; simp only [hqs] at hq')))
                | refine stp ?_
                | refine aws_draws [] mixed (by kernel_rfl) ?_
                | refine ifT ?_
                | refine ifF ?_
                | (refine ifQ ?_ ?_ <;> (try (intro hn)))
                | (refine ifB ?_ ?_ <;> (intro hq; try (have hq' := hq; simp only [hqs] at hq'))))
            exact ⟨k + 1, _, by omega, hk', .refl, by exact frA⟩
        · have t2 : decide (ltD (l.getD (k : Int).toNat default) d) = false := decide_eq_false hlt
          have hk' := atI_end hk (by rw [Int.toNat_natCast] at hlt; exact hlt)
          have e : insI ltD d l = l.take (k : Int).toNat ++ [(d.1, d.2)] ++ l.drop (k : Int).toNat := by rw [insI, Int.toNat_natCast, hk', List.append_assoc]; rfl
          rw [e]
          repeat' (first
              | refine rnC ?_
              | refine rnSB ?_
              | refine rnG ?_
              | refine rnU ?_
              | ((fail_if_success (refine rnKn ?_)); refine rnP ?_ ?_ <;> (intro hq; try (have hq' := hq; simp only [hqs] at hq')))
              | refine rkC ?_
              | refine rkSB ?_
              | refine rkF ?_
              | refine rkU ?_
              | ((fail_if_success (refine rkKn ?_)); refine rkP ?_ ?_ <;> (intro hq; try (have hq' := hq; simp only [hqs] at hq')))
              | refine stp ?_
              | refine ifT ?_
              | refine ifF ?_
              | (refine ifQ ?_ ?_ <;> (try (intro hn)))
              | (refine ifB ?_ ?_ <;> (intro hq; try (have hq' := hq; simp only [hqs] at hq'))))
          refine aws_draws [] mixed (by kernel_rfl) ?_
          repeat' (first
              | refine rk_nil ?_
              | refine rkC ?_
              | refine rkSB ?_
              | refine rkF ?_
              | refine rkU ?_
              | ((fail_if_success (refine rkKn ?_)); refine rkP ?_ ?_ <;> (intro hq; try (have hq' := hq; simp only [hqs] at hq'))))
          repeat' (first
              | refine rnC ?_
              | refine rnSB ?_
              | refine rnG ?_
              | refine rnU ?_
              | ((fail_if_success (refine rnKn ?_)); refine rnP ?_ ?_ <;> (intro hq; try (have hq' := hq; simp only [hqs] at hq')))
              | refine rkC ?_
              | refine rkSB ?_
              | refine rkF ?_
              | refine rkU ?_
              | ((fail_if_success (refine rkKn ?_)); refine rkP ?_ ?_ <;> (intro hq; try (have hq' := hq; simp only [hqs] at hq')))
              | refine stp ?_
              | refine ifT ?_
              | refine ifF ?_
              | (refine ifQ ?_ ?_ <;> (try (intro hn)))
              | (refine ifB ?_ ?_ <;> (intro hq; try (have hq' := hq; simp only [hqs] at hq'))))
          refine aws_draws [(4, 34), (7, 34), (11, 34)] mixed (by kernel_rfl) ?_
          repeat' (first
              | refine rk_nil ?_
              | refine rkC ?_
              | refine rkSB ?_
              | refine rkF ?_
              | refine rkU ?_
              | ((fail_if_success (refine rkKn ?_)); refine rkP ?_ ?_ <;> (intro hq; try (have hq' := hq; simp only [hqs] at hq'))))
          as_aux_lemma =>
            repeat' (first
                | refine rnC ?_
                | refine rnSB ?_
                | refine rnG ?_
                | refine rnU ?_
                | ((fail_if_success (refine rnKn ?_)); refine rnP ?_ ?_ <;> (intro hq; try (have hq' := hq; simp only [hqs] at hq')))
                | refine rkC ?_
                | refine rkSB ?_
                | refine rkF ?_
                | refine rkU ?_
                | ((fail_if_success (refine rkKn ?_)); refine rkP ?_ ?_ <;> (intro hq; try (have hq' := hq; simp only [hqs] at hq')))
                | refine stp ?_
                | refine ifT ?_
                | refine ifF ?_
                | (refine ifQ ?_ ?_ <;> (try (intro hn)))
                | (refine ifB ?_ ?_ <;> (intro hq; try (have hq' := hq; simp only [hqs] at hq'))))
            exact rt1 rfl rfl (.one (finC_map rfl rfl rfl rfl)) rfl
      · have t1 : decide ((k : Int) < (l.length : Int)) = false := decide_eq_false (by omega)
        have hk' : k = atI ltD d l := by omega
        have e : insI ltD d l = l.take (k : Int).toNat ++ [(d.1, d.2)] ++ l.drop (k : Int).toNat := by rw [insI, Int.toNat_natCast, hk', List.append_assoc]; rfl
        rw [e]
        repeat' (first
            | refine rnC ?_
            | refine rnSB ?_
            | refine rnG ?_
            | refine rnU ?_
            | ((fail_if_success (refine rnKn ?_)); refine rnP ?_ ?_ <;> (intro hq; try (have hq' := hq; simp only [hqs] at hq')))
            | refine rkC ?_
            | refine rkSB ?_
            | refine rkF ?_
            | refine rkU ?_
            | ((fail_if_success (refine rkKn ?_)); refine rkP ?_ ?_ <;> (intro hq; try (have hq' := hq; simp only [hqs] at hq')))
            | refine stp ?_
            | refine ifT ?_
            | refine ifF ?_
            | (refine ifQ ?_ ?_ <;> (try (intro hn)))
            | (refine ifB ?_ ?_ <;> (intro hq; try (have hq' := hq; simp only [hqs] at hq'))))
        refine aws_draws [] mixed (by kernel_rfl) ?_
        repeat' (first
            | refine rk_nil ?_
            | refine rkC ?_
            | refine rkSB ?_
            | refine rkF ?_
            | refine rkU ?_
            | ((fail_if_success (refine rkKn ?_)); refine rkP ?_ ?_ <;> (intro hq; try (have hq' := hq; simp only [hqs] at hq'))))
        repeat' (first
            | refine rnC ?_
            | refine rnSB ?_
            | refine rnG ?_
            | refine rnU ?_
            | ((fail_if_success (refine rnKn ?_)); refine rnP ?_ ?_ <;> (intro hq; try (have hq' := hq; simp only [hqs] at hq')))
            | refine rkC ?_
            | refine rkSB ?_
            | refine rkF ?_
            | refine rkU ?_
            | ((fail_if_success (refine rkKn ?_)); refine rkP ?_ ?_ <;> (intro hq; try (have hq' := hq; simp only [hqs] at hq')))
            | refine stp ?_
            | refine ifT ?_
            | refine ifF ?_
            | (refine ifQ ?_ ?_ <;> (try (intro hn)))
            | (refine ifB ?_ ?_ <;> (intro hq; try (have hq' := hq; simp only [hqs] at hq'))))
        refine aws_draws [(4, 34), (7, 34), (11, 34)] mixed (by kernel_rfl) ?_
        repeat' (first
            | refine rk_nil ?_
            | refine rkC ?_
            | refine rkSB ?_
            | refine rkF ?_
            | refine rkU ?_
            | ((fail_if_success (refine rkKn ?_)); refine rkP ?_ ?_ <;> (intro hq; try (have hq' := hq; simp only [hqs] at hq'))))
        as_aux_lemma =>
          repeat' (first
              | refine rnC ?_
              | refine rnSB ?_
              | refine rnG ?_
              | refine rnU ?_
              | ((fail_if_success (refine rnKn ?_)); refine rnP ?_ ?_ <;> (intro hq; try (have hq' := hq; simp only [hqs] at hq')))
              | refine rkC ?_
              | refine rkSB ?_
              | refine rkF ?_
              | refine rkU ?_
              | ((fail_if_success (refine rkKn ?_)); refine rkP ?_ ?_ <;> (intro hq; try (have hq' := hq; simp only [hqs] at hq')))
              | refine stp ?_
              | refine ifT ?_
              | refine ifF ?_
              | (refine ifQ ?_ ?_ <;> (try (intro hn)))
              | (refine ifB ?_ ?_ <;> (intro hq; try (have hq' := hq; simp only [hqs] at hq'))))
          exact rt1 rfl rfl (.one (finC_map rfl rfl rfl rfl)) rfl
instance insert_i {l : List Dot} {d : Dot} : PC Try.prog 59 [.p (.sl 2 (l.map dR) false), dV d] (l.length ≤ 1000000000) (.p (.sl 2 ((insD l d).map dR) false)) := ⟨insert_r l d⟩
theorem of4_r (l : List Dot) (ex : Bool) (h : l.length ≤ 1000000000) : PCall Try.prog 23 [.p (.sl 2 (l.map dR) ex)] (.p (.sl 2 ((G.dotsOf l).map dR) false)) := by
  refine pcall_of Try.func23 rfl (fun w0 F S0 M0 => ?_)
  repeat' (first
      | refine rnC ?_
      | refine rnSB ?_
      | refine rnG ?_
      | refine rnU ?_
      | ((fail_if_success (refine rnKn ?_)); refine rnP ?_ ?_ <;> (intro hq; try (have hq' := hq; simp only [hqs] at hq')))
      | refine rkC ?_
      | refine rkSB ?_
      | refine rkF ?_
      | refine rkU ?_
      | ((fail_if_success (refine rkKn ?_)); refine rkP ?_ ?_ <;> (intro hq; try (have hq' := hq; simp only [hqs] at hq')))
      | refine stp ?_
      | refine ifT ?_
      | refine ifF ?_
      | (refine ifQ ?_ ?_ <;> (try (intro hn)))
      | (refine ifB ?_ ?_ <;> (intro hq; try (have hq' := hq; simp only [hqs] at hq'))))
  refine aws_says (says_nils (t := 3) (es := 2) rfl) ?_
  refine aws_says (says_inex (t := 3) rfl) ?_
  refine aws_loopS [3, 4, 5, 6, 7, 8, 9, 10, 11, 12, 13, 14, 15, 16] [] (fun (x : Nat × List Dot) => [(4, .p (.i x.1)), (3, .p (.sl 2 (x.2.map dR) false))]) (fun _ => [])
    (fun x => x.1 ≤ l.length ∧ x.2 = ofTo l x.1) (fun x => l.length - x.1) (0, []) ⟨Nat.zero_le _, rfl⟩ (by exact knA) (by exact knA) ?_
  rintro ⟨i, m⟩ β γ ⟨hi, hm⟩
  simp only at hi hm
  dsimp only
  have hml : m.length ≤ i := by rw [hm]; exact ofTo_len
  have hm9 : m.length ≤ 1000000000 := by omega
  by_cases hil : i < l.length
  · have hd : decide ((i : Int) < (l.length : Int)) = true := decide_eq_true (by omega)
    as_aux_lemma =>
      repeat' (first
          | refine rnC ?_
          | refine rnSB ?_
          | refine rnG ?_
          | refine rnU ?_
          | ((fail_if_success (refine rnKn ?_)); refine rnP ?_ ?_ <;> (intro hq; try (have hq' := hq; simp only [hqs] at hq')))
          | refine rkC ?_
          | refine rkSB ?_
          | refine rkF ?_
          | refine rkU ?_
          | ((fail_if_success (refine rkKn ?_)); refine rkP ?_ ?_ <;> (intro hq; try (have hq' := hq; simp only [hqs] at hq')))
          | refine stp ?_
          | refine ifT ?_
          | refine ifF ?_
          | (refine ifQ ?_ ?_ <;> (try (intro hn)))
          | (refine ifB ?_ ?_ <;> (intro hq; try (have hq' := hq; simp only [hqs] at hq'))))
      refine ⟨(i + 1, insD m (l.getD (i : Int).toNat default)), _, by dsimp only; omega, ⟨by dsimp only; omega, ?_⟩, .refl, by exact frA⟩
      dsimp only
      rw [ofTo, hm, Int.toNat_natCast]
  · have hd : decide ((i : Int) < (l.length : Int)) = false := decide_eq_false (by omega)
    obtain rfl : i = l.length := by omega
    have e : G.dotsOf l = m.take 2000 := by rw [dotsOf_is, ← setF_of, hm]
    rw [e]
    by_cases hc : 2000 < m.length
    · have d1 : decide (2000 < (m.length : Int)) = true := decide_eq_true (by omega)
      as_aux_lemma =>
        repeat' (first
            | refine rnC ?_
            | refine rnSB ?_
            | refine rnG ?_
            | refine rnU ?_
            | ((fail_if_success (refine rnKn ?_)); refine rnP ?_ ?_ <;> (intro hq; try (have hq' := hq; simp only [hqs] at hq')))
            | refine rkC ?_
            | refine rkSB ?_
            | refine rkF ?_
            | refine rkU ?_
            | ((fail_if_success (refine rkKn ?_)); refine rkP ?_ ?_ <;> (intro hq; try (have hq' := hq; simp only [hqs] at hq')))
            | refine stp ?_
            | refine ifT ?_
            | refine ifF ?_
            | (refine ifQ ?_ ?_ <;> (try (intro hn)))
            | (refine ifB ?_ ?_ <;> (intro hq; try (have hq' := hq; simp only [hqs] at hq'))))
        exact rt1 rfl rfl finS_p rfl
    · have d1 : decide (2000 < (m.length : Int)) = false := decide_eq_false (by omega)
      rw [List.take_of_length_le (by omega)]
      as_aux_lemma =>
        repeat' (first
            | refine rnC ?_
            | refine rnSB ?_
            | refine rnG ?_
            | refine rnU ?_
            | ((fail_if_success (refine rnKn ?_)); refine rnP ?_ ?_ <;> (intro hq; try (have hq' := hq; simp only [hqs] at hq')))
            | refine rkC ?_
            | refine rkSB ?_
            | refine rkF ?_
            | refine rkU ?_
            | ((fail_if_success (refine rkKn ?_)); refine rkP ?_ ?_ <;> (intro hq; try (have hq' := hq; simp only [hqs] at hq')))
            | refine stp ?_
            | refine ifT ?_
            | refine ifF ?_
            | (refine ifQ ?_ ?_ <;> (try (intro hn)))
            | (refine ifB ?_ ?_ <;> (intro hq; try (have hq' := hq; simp only [hqs] at hq'))))
        exact rt1 rfl rfl finS_p rfl
instance of4_i {l : List Dot} {ex : Bool} : PC Try.prog 23 [.p (.sl 2 (l.map dR) ex)] (l.length ≤ 1000000000) (.p (.sl 2 ((G.dotsOf l).map dR) false)) := ⟨of4_r l ex⟩
theorem same4_r (l m : List Dot) (ex ey : Bool) (h : l.length ≤ 1000000000) : PCall Try.prog 21 [.p (.sl 2 (l.map dR) ex), .p (.sl 2 (m.map dR) ey)] (.p (.b (decide (l = m)))) := by
  refine pcall_of Try.func21 rfl (fun w0 F S0 M0 => ?_)
  by_cases hlm : l.length = m.length
  · have d1 : decide ((l.length : Int) ≠ (m.length : Int)) = false := decide_eq_false (by omega)
    repeat' (first
        | refine rnC ?_
        | refine rnSB ?_
        | refine rnG ?_
        | refine rnU ?_
        | ((fail_if_success (refine rnKn ?_)); refine rnP ?_ ?_ <;> (intro hq; try (have hq' := hq; simp only [hqs] at hq')))
        | refine rkC ?_
        | refine rkSB ?_
        | refine rkF ?_
        | refine rkU ?_
        | ((fail_if_success (refine rkKn ?_)); refine rkP ?_ ?_ <;> (intro hq; try (have hq' := hq; simp only [hqs] at hq')))
        | refine stp ?_
        | refine aws_draws [] mixed (by kernel_rfl) ?_
        | refine ifT ?_
        | refine ifF ?_
        | (refine ifQ ?_ ?_ <;> (try (intro hn)))
        | (refine ifB ?_ ?_ <;> (intro hq; try (have hq' := hq; simp only [hqs] at hq'))))
    refine aws_loopS [4, 5, 11, 12, 13, 14, 15, 16, 17, 18, 19, 20, 21, 22, 23, 24, 25] [] (fun (i : Nat) => [(5, .p (.i i))]) (fun _ => []) (fun i => i ≤ l.length ∧ ∀ j, j < i → l.getD j default = m.getD j default) (fun i => l.length - i) 0 ⟨Nat.zero_le _, fun j hj => absurd hj (Nat.not_lt_zero _)⟩ (by exact knA) (by exact knA) ?_
    rintro i β γ ⟨hi, hx⟩
    by_cases hil : i < l.length
    · have hlt : decide ((i : Int) < (l.length : Int)) = true := decide_eq_true (by omega)
      have hd := vEqD (l.getD (i : Int).toNat default) (m.getD (i : Int).toNat default)
      by_cases hq : l.getD (i : Int).toNat default = m.getD (i : Int).toNat default
      · rw [decide_eq_true hq] at hd
        have hd2 := congrArg not hd
        rw [Bool.not_true] at hd2
        rw [Int.toNat_natCast] at hq
        repeat' (first
            | refine rnC ?_
            | refine rnSB ?_
            | refine rnG ?_
            | refine rnU ?_
            | ((fail_if_success (refine rnKn ?_)); refine rnP ?_ ?_ <;> (intro hq; try (have hq' := hq; simp only [hqs] at hq')))
            | refine rkC ?_
            | refine rkSB ?_
            | refine rkF ?_
            | refine rkU ?_
            | ((fail_if_success (refine rkKn ?_)); refine rkP ?_ ?_ <;> (intro hq; try (have hq' := hq; simp only [hqs] at hq')))
            | refine stp ?_
            | refine aws_draws [] mixed (by kernel_rfl) ?_
            | refine ifT ?_
            | refine ifF ?_
            | (refine ifQ ?_ ?_ <;> (try (intro hn)))
            | (refine ifB ?_ ?_ <;> (intro hq; try (have hq' := hq; simp only [hqs] at hq'))))
        refine ⟨i + 1, _, by omega, ⟨by omega, fun j hj => ?_⟩, .refl, by exact frA⟩
        by_cases ej : j = i
        · rw [ej]; exact hq
        · exact hx j (by omega)
      · rw [decide_eq_false hq] at hd
        have hd2 := congrArg not hd
        rw [Bool.not_false] at hd2
        as_aux_lemma =>
          repeat' (first
              | refine rnC ?_
              | refine rnSB ?_
              | refine rnG ?_
              | refine rnU ?_
              | ((fail_if_success (refine rnKn ?_)); refine rnP ?_ ?_ <;> (intro hq; try (have hq' := hq; simp only [hqs] at hq')))
              | refine rkC ?_
              | refine rkSB ?_
              | refine rkF ?_
              | refine rkU ?_
              | ((fail_if_success (refine rkKn ?_)); refine rkP ?_ ?_ <;> (intro hq; try (have hq' := hq; simp only [hqs] at hq')))
              | refine stp ?_
              | refine aws_draws [] mixed (by kernel_rfl) ?_
              | refine ifT ?_
              | refine ifF ?_
              | (refine ifQ ?_ ?_ <;> (try (intro hn)))
              | (refine ifB ?_ ?_ <;> (intro hq; try (have hq' := hq; simp only [hqs] at hq'))))
          refine rt1 rfl rfl finS_p (rb ?_)
          exact decide_eq_false fun q => hq (by rw [q])
    · have hlt : decide ((i : Int) < (l.length : Int)) = false := decide_eq_false (by omega)
      as_aux_lemma =>
        repeat' (first
            | refine rnC ?_
            | refine rnSB ?_
            | refine rnG ?_
            | refine rnU ?_
            | ((fail_if_success (refine rnKn ?_)); refine rnP ?_ ?_ <;> (intro hq; try (have hq' := hq; simp only [hqs] at hq')))
            | refine rkC ?_
            | refine rkSB ?_
            | refine rkF ?_
            | refine rkU ?_
            | ((fail_if_success (refine rkKn ?_)); refine rkP ?_ ?_ <;> (intro hq; try (have hq' := hq; simp only [hqs] at hq')))
            | refine stp ?_
            | refine aws_draws [] mixed (by kernel_rfl) ?_
            | refine ifT ?_
            | refine ifF ?_
            | (refine ifQ ?_ ?_ <;> (try (intro hn)))
            | (refine ifB ?_ ?_ <;> (intro hq; try (have hq' := hq; simp only [hqs] at hq'))))
        refine rt1 rfl rfl finS_p (rb ?_)
        refine decide_eq_true (List.ext_getElem hlm fun j h1 h2 => ?_)
        have := hx j (by omega)
        rw [List.getD_eq_getElem?_getD, List.getD_eq_getElem?_getD, List.getElem?_eq_getElem h1, List.getElem?_eq_getElem h2] at this
        exact this
  · have d1 : decide ((l.length : Int) ≠ (m.length : Int)) = true := decide_eq_true (by omega)
    as_aux_lemma =>
      repeat' (first
          | refine rnC ?_
          | refine rnSB ?_
          | refine rnG ?_
          | refine rnU ?_
          | ((fail_if_success (refine rnKn ?_)); refine rnP ?_ ?_ <;> (intro hq; try (have hq' := hq; simp only [hqs] at hq')))
          | refine rkC ?_
          | refine rkSB ?_
          | refine rkF ?_
          | refine rkU ?_
          | ((fail_if_success (refine rkKn ?_)); refine rkP ?_ ?_ <;> (intro hq; try (have hq' := hq; simp only [hqs] at hq')))
          | refine stp ?_
          | refine aws_draws [] mixed (by kernel_rfl) ?_
          | refine ifT ?_
          | refine ifF ?_
          | (refine ifQ ?_ ?_ <;> (try (intro hn)))
          | (refine ifB ?_ ?_ <;> (intro hq; try (have hq' := hq; simp only [hqs] at hq'))))
      refine rt1 rfl rfl finS_p (rb ?_)
      exact decide_eq_false fun q => hlm (by rw [q])
instance same4_i {l m : List Dot} {ex ey : Bool} : PC Try.prog 21 [.p (.sl 2 (l.map dR) ex), .p (.sl 2 (m.map dR) ey)] (l.length ≤ 1000000000) (.p (.b (decide (l = m)))) := ⟨same4_r l m ex ey⟩
theorem as3_r (d : Dot) : PCall Try.prog 17 [dV d] (dV d) := by
  refine pcall_of Try.func17 rfl (fun w0 F S0 M0 => ?_)
  as_aux_lemma =>
    repeat' (first
        | refine rnC ?_
        | refine rnSB ?_
        | refine rnG ?_
        | refine rnU ?_
        | ((fail_if_success (refine rnKn ?_)); refine rnP ?_ ?_ <;> (intro hq; try (have hq' := hq; simp only [hqs] at hq')))
        | refine rkC ?_
        | refine rkSB ?_
        | refine rkF ?_
        | refine rkU ?_
        | ((fail_if_success (refine rkKn ?_)); refine rkP ?_ ?_ <;> (intro hq; try (have hq' := hq; simp only [hqs] at hq')))
        | refine stp ?_
        | refine aws_draws [] mixed (by kernel_rfl) ?_
        | refine ifT ?_
        | refine ifF ?_
        | (refine ifQ ?_ ?_ <;> (try (intro hn)))
        | (refine ifB ?_ ?_ <;> (intro hq; try (have hq' := hq; simp only [hqs] at hq'))))
    exact rc1 rfl rfl rfl rfl rfl rfl finL_p rfl
instance as3_i {d : Dot} : PC Try.prog 17 [dV d] True (dV d) := ⟨fun _ => as3_r d⟩
theorem as4_r (l : List Dot) (ex : Bool) (h : l.length ≤ 1000000) : PCall Try.prog 10 [.p (.sl 2 (l.map dR) ex)] (.p (.sl 2 (l.map dR) false)) := by
  refine pcall_of Try.func10 rfl (fun w0 F S0 M0 => ?_)
  repeat' (first
      | refine rnC ?_
      | refine rnSB ?_
      | refine rnG ?_
      | refine rnU ?_
      | ((fail_if_success (refine rnKn ?_)); refine rnP ?_ ?_ <;> (intro hq; try (have hq' := hq; simp only [hqs] at hq')))
      | refine rkC ?_
      | refine rkSB ?_
      | refine rkF ?_
      | refine rkU ?_
      | ((fail_if_success (refine rkKn ?_)); refine rkP ?_ ?_ <;> (intro hq; try (have hq' := hq; simp only [hqs] at hq')))
      | refine stp ?_
      | refine ifT ?_
      | refine ifF ?_
      | (refine ifQ ?_ ?_ <;> (try (intro hn)))
      | (refine ifB ?_ ?_ <;> (intro hq; try (have hq' := hq; simp only [hqs] at hq'))))
  refine aws_says (says_nil (t := 3) (o := 901) (ty := 35) (es := 2) rfl rfl (by decide)) ?_
  refine aws_loopS [3, 4, 5, 6, 7, 8, 9, 10, 11, 12, 13, 14, 15, 16, 17, 18] [901] (fun (x : Nat × List Dot) => [(4, .p (.i x.1)), (3, .o (.osl 901 x.1 2 0 x.2.length))]) (fun x => [(901, (x.1 + 1, some (.buf 35 2 (x.2.map dR))))])
    (fun x => x.1 ≤ l.length ∧ x.2 = l.take x.1) (fun x => l.length - x.1) (0, []) ⟨Nat.zero_le _, rfl⟩ (by exact knA) (by exact knA) ?_
  rintro ⟨i, m⟩ β γ ⟨hi, hm⟩
  simp only at hi hm
  have hml : m.length = i := by rw [hm, List.length_take]; omega
  dsimp only
  by_cases hil : i < l.length
  · have hd : decide ((i : Int) < (l.length : Int)) = true := decide_eq_true (by omega)
    as_aux_lemma =>
      repeat' (first
          | refine rnC ?_
          | refine rnSB ?_
          | refine rnG ?_
          | refine rnU ?_
          | ((fail_if_success (refine rnKn ?_)); refine rnP ?_ ?_ <;> (intro hq; try (have hq' := hq; simp only [hqs] at hq')))
          | refine rkC ?_
          | refine rkSB ?_
          | refine rkF ?_
          | refine rkU ?_
          | ((fail_if_success (refine rkKn ?_)); refine rkP ?_ ?_ <;> (intro hq; try (have hq' := hq; simp only [hqs] at hq')))
          | refine stp ?_
          | refine ifT ?_
          | refine ifF ?_
          | (refine ifQ ?_ ?_ <;> (try (intro hn)))
          | (refine ifB ?_ ?_ <;> (intro hq; try (have hq' := hq; simp only [hqs] at hq'))))
      refine ⟨(i + 1, m ++ [(_, _)]), _, by dsimp only; omega, ⟨by dsimp only; omega, ?_⟩, .refl, by exact frA⟩
      dsimp only
      rw [hm, take_get' hil, Int.toNat_natCast]
  · have hd : decide ((i : Int) < (l.length : Int)) = false := decide_eq_false (by omega)
    have hm' : l = m := by rw [hm, List.take_of_length_le (by omega)]
    rw [hm']
    rw [hm'] at hd
    as_aux_lemma =>
      repeat' (first
          | refine rnC ?_
          | refine rnSB ?_
          | refine rnG ?_
          | refine rnU ?_
          | ((fail_if_success (refine rnKn ?_)); refine rnP ?_ ?_ <;> (intro hq; try (have hq' := hq; simp only [hqs] at hq')))
          | refine rkC ?_
          | refine rkSB ?_
          | refine rkF ?_
          | refine rkU ?_
          | ((fail_if_success (refine rkKn ?_)); refine rkP ?_ ?_ <;> (intro hq; try (have hq' := hq; simp only [hqs] at hq')))
          | refine stp ?_
          | refine ifT ?_
          | refine ifF ?_
          | (refine ifQ ?_ ?_ <;> (try (intro hn)))
          | (refine ifB ?_ ?_ <;> (intro hq; try (have hq' := hq; simp only [hqs] at hq'))))
      exact rt1 rfl rfl (.one (finC_map rfl rfl rfl rfl)) rfl
instance as4_i {l : List Dot} {ex : Bool} : PC Try.prog 10 [.p (.sl 2 (l.map dR) ex)] (l.length ≤ 1000000) (.p (.sl 2 (l.map dR) false)) := ⟨as4_r l ex⟩
end Go.Proofs.Ytgiekdhipbikoaa.Cd
namespace Go.Proofs.Ytgiekdhipbikoaa.Ct
open Go Go.RowKit Go.Aw Go.Aw.Cart Go.Aw.Ord Go.Proofs.Ytgiekdhipbikoaa.Ca
set_option linter.unusedVariables false
set_option linter.unusedSimpArgs false
set_option maxRecDepth 8000
set_option maxHeartbeats 4000000
theorem wrap64 {n : Int} : IntKind.u64.wrap n = n % 18446744073709551616 := by simp [IntKind.wrap, IntKind.bits, IntKind.signed]
theorem lop_conv64 {C : Ctx} {o : Oper} {σ : St} {s d : TypeId} {x : Operand} {sz by_ : Nat} {ks : TK} {sz' by' : Nat} {k : IntKind} {n : Int} (ho : o.op = .convert s d x) (hT : TI C.P d (.int .u64) sz by_) (hS : TI C.P s ks sz' by') (hx : σ.look x = .p (.v (.int k n))) (hd : dOk C o.dst = true) :
    LOp C o σ ⟨.p (.v (.int .u64 (n % 18446744073709551616))), []⟩ (fun _ => false) := by
  have := lop_conv ho hx hd
  rwa [wrap64] at this
theorem lop_sub64 {C : Ctx} {o : Oper} {σ : St} {t t' : TypeId} {x y : Operand} {m n r : Int} (ho : o.op = .binOp .sub t x y t') (hx : σ.look x = .p (.v (.int .u64 m))) (hy : σ.look y = .p (.v (.int .u64 n))) (hr : (m - n) % 18446744073709551616 = r) (hd : dOk C o.dst = true) :
    LOp C o σ ⟨.p (.v (.int .u64 r)), []⟩ (fun _ => false) := by
  have := lop_sub ho hx hy hd
  rwa [wrap64, hr] at this
namespace R8
theorem lopC {C : Ctx} {o : Oper} {σ : St} {e : Eff} {ro : Nat → Bool} (h : LOp C o σ e ro := by
    first
      | (apply lop_conv64; (focus rfl); (focus exact inferInstance); (focus exact inferInstance); (focus rfl); (focus rfl))
      | (apply lop_sub64; (focus rfl); (focus rfl); (focus rfl); (focus assumption); (focus rfl))
      | exact Go.Proofs.Ytgiekdhipbikoaa.Cr.lopC
      | fail) : LOp C o σ e ro := h
section steps
variable {C : Ctx} {ops : Array Oper} {o : Oper} {rest : List Oper} {K : St → Prop} {σ : St} {e : Eff} {ro : Nat → Bool} {W : List (Nat × Nat)} {i : Nat}
theorem rnC {d : Nat} (hk : RunN C ops rest K (e.app (some d) σ)) (hg : Guard ops σ o true := by first | exact gd_n rfl rfl | exact gd_t rfl rfl rfl rfl | exact gd_t rfl rfl rfl (by assumption)) (hd : o.dst = some d := by rfl) (h : LOp C o σ e ro := by exact lopC) : RunN C ops (o :: rest) K σ := rn_any hg hd h hk
theorem rkC {d : Nat} (hk : RunK C ops W (i + 1) rest K (e.app (some d) σ)) (hg : Guard ops σ o true := by first | exact gd_n rfl rfl | exact gd_t rfl rfl rfl rfl | exact gd_t rfl rfl rfl (by assumption)) (hd' : o.dst = some d := by rfl) (hd : dOk C o.dst = true := by rfl) (h : LOp C o σ e ro := by exact lopC)
    (hro : ∀ x, ro x = true → okObj ops W i x = true := by first | exact fun _ => ro_none | exact ro_one rfl | exact ro_one (by kernel_rfl) | exact ro_kIn (by decide)) (hob : ∀ p ∈ e.obj, (i, p.1) ∈ W := by first | exact ob_none | exact ob_one (by decide) | decide) : RunK C ops W i (o :: rest) K σ := rk_wr hg hd' hd h hro hob hk
end steps
end R8
open R8
theorem moreF_is {a b : Int} (ha : 0 ≤ a) (hb : 0 ≤ b) : moreF a b = if 4611686018427387904 ≤ a ∨ 4611686018427387904 ≤ b ∨ 4611686018427387904 ≤ a + b then 4611686018427387904 else a + b := by
  unfold moreF mnF
  split
  · repeat' split
    all_goals omega
  · repeat' split
    all_goals omega
end Go.Proofs.Ytgiekdhipbikoaa.Ct
namespace Go.Proofs.Ytgiekdhipbikoaa.Cv
open Go Go.RowKit Go.Aw Go.Aw.Cart Go.Aw.Ord Go.Proofs.Ytgiekdhipbikoaa.Ca
set_option linter.unusedVariables false
set_option linter.unusedSimpArgs false
set_option maxRecDepth 8000
set_option maxHeartbeats 4000000
namespace R9
theorem lopC {C : Ctx} {o : Oper} {σ : St} {e : Eff} {ro : Nat → Bool} (h : LOp C o σ e ro := by
    first
      | exact Go.Proofs.Ytgiekdhipbikoaa.Cd.R7.lopC
      | (apply lop_call1; (focus rfl); (focus exact inferInstance); (focus exact lk_cart rfl); (focus exact inferInstance); (focus exact inferInstance); (focus first | exact True.intro | assumption | rfl | omega | ((repeat' (first | assumption | refine And.intro ?_ ?_ | omega | rfl)); done) | fail); (focus rfl))
            | (apply lop_call2; (focus rfl); (focus exact inferInstance); (focus exact lk_cart rfl); (focus exact lk_cart rfl); (focus exact inferInstance); (focus exact inferInstance); (focus first | exact True.intro | assumption | rfl | omega | ((repeat' (first | assumption | refine And.intro ?_ ?_ | omega | rfl)); done) | fail); (focus rfl))
            | (apply lop_call2; (focus rfl); (focus exact inferInstance); (focus exact lk_cart rfl); (focus first | exact lk_m1 rfl | exact lk_m2 rfl | exact lk_m3 rfl | exact lk_o rfl | exact lk_a2 rfl | exact lk_a3 rfl | exact lk_a4 rfl | exact lk_a1 rfl | exact lk_a5 rfl | exact lk_a6 rfl | exact lk_a7 rfl | exact lk_a8 rfl | exact lk_a rfl); (focus exact inferInstance); (focus exact inferInstance); (focus first | exact True.intro | assumption | rfl | omega | ((repeat' (first | assumption | refine And.intro ?_ ?_ | omega | rfl)); done) | fail); (focus rfl))
      | fail) : LOp C o σ e ro := h
section steps
variable {C : Ctx} {ops : Array Oper} {o : Oper} {rest : List Oper} {K : St → Prop} {σ : St} {e : Eff} {ro : Nat → Bool} {W : List (Nat × Nat)} {i : Nat}
theorem rnC {d : Nat} (hk : RunN C ops rest K (e.app (some d) σ)) (hg : Guard ops σ o true := by first | exact gd_n rfl rfl | exact gd_t rfl rfl rfl rfl | exact gd_t rfl rfl rfl (by assumption)) (hd : o.dst = some d := by rfl) (h : LOp C o σ e ro := by exact lopC) : RunN C ops (o :: rest) K σ := rn_any hg hd h hk
theorem rkC {d : Nat} (hk : RunK C ops W (i + 1) rest K (e.app (some d) σ)) (hg : Guard ops σ o true := by first | exact gd_n rfl rfl | exact gd_t rfl rfl rfl rfl | exact gd_t rfl rfl rfl (by assumption)) (hd' : o.dst = some d := by rfl) (hd : dOk C o.dst = true := by rfl) (h : LOp C o σ e ro := by exact lopC)
    (hro : ∀ x, ro x = true → okObj ops W i x = true := by first | exact fun _ => ro_none | exact ro_one rfl | exact ro_k1 rfl | exact ro_one (by kernel_rfl) | exact ro_k1 (by kernel_rfl) | exact ro_kIn (by decide)) (hob : ∀ p ∈ e.obj, (i, p.1) ∈ W := by first | exact ob_none | exact ob_one (by decide) | decide) : RunK C ops W i (o :: rest) K σ := rk_wr hg hd' hd h hro hob hk
end steps
end R9
open R9
theorem snocE {p : Ent → Bool} {l : List Ent} {i : Nat} (hi : i < l.length) : (l.take (i + 1)).filter p = (l.take i).filter p ++ (if p (l.getD i default) = true then [l.getD i default] else []) := by
  rw [take_get' hi, List.filter_append]
  congr 1
  by_cases h : p (l.getD i default) = true
  · rw [if_pos h, List.filter_cons_of_pos h]; rfl
  · rw [if_neg h, List.filter_cons_of_neg h]; rfl
end Go.Proofs.Ytgiekdhipbikoaa.Cv
namespace Go.Proofs.Ytgiekdhipbikoaa.Cq
open Go Go.RowKit Go.Aw Go.Aw.Cart Go.Aw.Ord Go.Proofs.Ytgiekdhipbikoaa.Ca
set_option linter.unusedVariables false
set_option linter.unusedSimpArgs false
set_option maxRecDepth 8000
set_option maxHeartbeats 4000000
theorem lop_add64 {C : Ctx} {o : Oper} {σ : St} {t t' : TypeId} {x y : Operand} {m n r : Int} (ho : o.op = .binOp .add t x y t') (hx : σ.look x = .p (.v (.int .u64 m))) (hy : σ.look y = .p (.v (.int .u64 n))) (hr : (m + n) % 18446744073709551616 = r) (hd : dOk C o.dst = true) :
    LOp C o σ ⟨.p (.v (.int .u64 r)), []⟩ (fun _ => false) := by
  have := lop_add ho hx hy hd
  rwa [Ct.wrap64, hr] at this
namespace Q1
theorem lopC {C : Ctx} {o : Oper} {σ : St} {e : Eff} {ro : Nat → Bool} (h : LOp C o σ e ro := by
    first
      | (apply lop_add64; (focus rfl); (focus rfl); (focus rfl); (focus assumption); (focus rfl))
      | exact Go.Proofs.Ytgiekdhipbikoaa.Cv.R9.lopC
      | (apply lop_build5; (focus rfl); (focus exact inferInstance); (focus exact inferInstance); (focus first | exact lk_m1 rfl | exact lk_m2 rfl | exact lk_m3 rfl | exact lk_o rfl | exact lk_a2 rfl | exact lk_a3 rfl | exact lk_a4 rfl | exact lk_a1 rfl | exact lk_a5 rfl | exact lk_a6 rfl | exact lk_a7 rfl | exact lk_a8 rfl | exact lk_a rfl); (focus first | exact lk_m1 rfl | exact lk_m2 rfl | exact lk_m3 rfl | exact lk_o rfl | exact lk_a2 rfl | exact lk_a3 rfl | exact lk_a4 rfl | exact lk_a1 rfl | exact lk_a5 rfl | exact lk_a6 rfl | exact lk_a7 rfl | exact lk_a8 rfl | exact lk_a rfl); (focus first | exact lk_m1 rfl | exact lk_m2 rfl | exact lk_m3 rfl | exact lk_o rfl | exact lk_a2 rfl | exact lk_a3 rfl | exact lk_a4 rfl | exact lk_a1 rfl | exact lk_a5 rfl | exact lk_a6 rfl | exact lk_a7 rfl | exact lk_a8 rfl | exact lk_a rfl); (focus first | exact lk_m1 rfl | exact lk_m2 rfl | exact lk_m3 rfl | exact lk_o rfl | exact lk_a2 rfl | exact lk_a3 rfl | exact lk_a4 rfl | exact lk_a1 rfl | exact lk_a5 rfl | exact lk_a6 rfl | exact lk_a7 rfl | exact lk_a8 rfl | exact lk_a rfl); (focus first | exact lk_m1 rfl | exact lk_m2 rfl | exact lk_m3 rfl | exact lk_o rfl | exact lk_a2 rfl | exact lk_a3 rfl | exact lk_a4 rfl | exact lk_a1 rfl | exact lk_a5 rfl | exact lk_a6 rfl | exact lk_a7 rfl | exact lk_a8 rfl | exact lk_a rfl); (focus decide); (focus first | exact sn2 rfl | exact sn3 rfl | exact sn4 rfl | exact sn1 rfl | exact sn5 rfl | exact sn6 rfl | exact sn7 rfl | exact sn8 rfl | exact sn9 rfl | exact sn10 rfl | exact sn11 rfl | exact sn12 rfl | rfl); (focus rfl))
      | (apply gField; (focus rfl); first | exact lop_fieldAddr_p rfl rfl (by decide) rfl rfl | exact lop_fieldAddr_bx rfl rfl (by decide) rfl rfl)
            | (apply lop_bsa; (focus rfl); (focus exact inferInstance); (focus exact inferInstance); (focus exact inferInstance); (focus repeat' (first | exact All2.nil | (apply bs_cons; (focus rfl); (focus rfl); (focus rfl)))); (focus rfl); (focus decide); (focus first | decide | omega); (focus rfl); (focus rfl))
            | (apply lop_mfa1; (focus rfl); (focus rfl); (focus rfl); (focus rfl); (focus rfl); (focus rfl))
            | (apply lop_mfa2; (focus rfl); (focus rfl); (focus rfl); (focus rfl); (focus rfl); (focus rfl); (focus rfl); (focus rfl); (focus rfl); (focus decide); (focus rfl))
            | (apply lop_mfa3; (focus rfl); (focus rfl); (focus rfl); (focus rfl); (focus rfl); (focus rfl); (focus rfl); (focus rfl); (focus rfl); (focus rfl); (focus rfl); (focus rfl); (focus rfl); (focus decide); (focus decide); (focus decide); (focus rfl))
            | (apply gLoad; (focus rfl); apply lop_ld_bxp; (focus rfl); (focus exact inferInstance); (focus rfl); (focus rfl); (focus rfl); (focus rfl); (focus rfl))
      | (apply lop_call2; (focus rfl); (focus exact inferInstance); (focus first | exact lk_v8 (by assumption) rfl | exact lk_v8l rfl); (focus first | exact lk_v8 (by assumption) rfl | exact lk_v8l rfl); (focus exact inferInstance); (focus exact inferInstance); (focus first | exact True.intro | assumption | rfl | omega | ((repeat' (first | assumption | refine And.intro ?_ ?_ | omega | rfl)); done) | fail); (focus rfl))
      | fail) : LOp C o σ e ro := h
section steps
variable {C : Ctx} {ops : Array Oper} {o : Oper} {rest : List Oper} {K : St → Prop} {σ : St} {e : Eff} {ro : Nat → Bool} {W : List (Nat × Nat)} {i : Nat}
theorem rnC {d : Nat} (hk : RunN C ops rest K (e.app (some d) σ)) (hg : Guard ops σ o true := by first | exact gd_n rfl rfl | exact gd_t rfl rfl rfl rfl | exact gd_t rfl rfl rfl (by assumption)) (hd : o.dst = some d := by rfl) (h : LOp C o σ e ro := by exact lopC) : RunN C ops (o :: rest) K σ := rn_any hg hd h hk
theorem rkC {d : Nat} (hk : RunK C ops W (i + 1) rest K (e.app (some d) σ)) (hg : Guard ops σ o true := by first | exact gd_n rfl rfl | exact gd_t rfl rfl rfl rfl | exact gd_t rfl rfl rfl (by assumption)) (hd' : o.dst = some d := by rfl) (hd : dOk C o.dst = true := by rfl) (h : LOp C o σ e ro := by exact lopC)
    (hro : ∀ x, ro x = true → okObj ops W i x = true := by first | exact fun _ => ro_none | exact ro_one rfl | exact ro_k1 rfl | exact ro_one (by kernel_rfl) | exact ro_k1 (by kernel_rfl) | exact ro_kIn (by decide)) (hob : ∀ p ∈ e.obj, (i, p.1) ∈ W := by first | exact ob_none | exact ob_one (by decide) | decide) : RunK C ops W i (o :: rest) K σ := rk_wr hg hd' hd h hro hob hk
end steps
end Q1
open Q1
/-- a vector with a dot, as far as it has been looked at -/
def withTo (v : List Int) (d : Dot) (i : Nat) : List Int := if dotF d = true ∧ (d.1 - 1).toNat < i then withF v d else v
theorem withTo_len {v : List Int} {d : Dot} {i : Nat} : (withTo v d i).length = v.length := by
  unfold withTo; split
  · exact withF_len
  · rfl
theorem withTo_all {v : List Int} {d : Dot} (hv : v.length = 8) (h0 : ∀ n ∈ v, 0 ≤ n) : withTo v d 8 = withF v d := by
  unfold withTo
  by_cases hd : dotF d = true
  · have := of_decide_eq_true hd
    rw [if_pos ⟨hd, by omega⟩]
  · rw [if_neg (fun k => hd k.1)]
    unfold withF
    by_cases hn : nodeF d.1 = true
    · have h1 := of_decide_eq_true hn
      have h2 : ¬ 0 < d.2 := fun k => hd (decide_eq_true ⟨h1.1, h1.2, k⟩)
      rw [if_pos hn]
      have hi : (d.1 - 1).toNat < v.length := by omega
      have := h0 _ (List.getElem_mem hi)
      rw [getD_at hi, if_neg (by omega), List.set_getElem_self]
    · rw [if_neg hn]
theorem withTo_skip {v : List Int} {d : Dot} {i : Nat} (h : dotF d = true → (i : Int) + 1 ≠ d.1) : withTo v d (i + 1) = withTo v d i := by
  unfold withTo
  by_cases hd : dotF d = true
  · have h1 := of_decide_eq_true hd
    have h2 := h hd
    have e : (d.1 - 1).toNat < i + 1 ↔ (d.1 - 1).toNat < i := by omega
    simp only [hd, true_and, e]
  · simp [hd]
theorem withTo_at {v : List Int} {d : Dot} {i : Nat} (hd : dotF d = true) (hi : (i : Int) + 1 = d.1) (hv : i < v.length) : withTo v d (i + 1) = (withTo v d i).set i (if v.getD i default < d.2 then d.2 else v.getD i default) := by
  have h1 := of_decide_eq_true hd
  have e : (d.1 - 1).toNat = i := by omega
  have l1 : withTo v d (i + 1) = withF v d := by unfold withTo; rw [if_pos ⟨hd, by omega⟩]
  have l2 : withTo v d i = v := by unfold withTo; rw [if_neg (fun k => by omega)]
  have hn : nodeF d.1 = true := decide_eq_true ⟨h1.1, h1.2.1⟩
  rw [l1, l2]
  unfold withF
  rw [if_pos hn, e]
theorem with3_r (v : List Int) (d : Dot) (hv : v.length = 8) (h0 : ∀ n ∈ v, 0 ≤ n) : PCall Try.prog 55 [vV v, dV d] (.a (v8L (withF v d))) := by
  refine pcall_of Try.func55 rfl (fun w0 F S0 M0 => ?_)
  rw [← v8L_is (by rw [withF_len]; exact hv)]
  repeat' (first
      | refine rnC ?_
      | refine rnSB ?_
      | refine rnG ?_
      | refine rnU ?_
      | ((fail_if_success (refine rnKn ?_)); refine rnP ?_ ?_ <;> (intro hq; try (have hq' := hq; simp only [hqs] at hq')))
      | refine rkC ?_
      | refine rkSB ?_
      | refine rkF ?_
      | refine rkU ?_
      | ((fail_if_success (refine rkKn ?_)); refine rkP ?_ ?_ <;> (intro hq; try (have hq' := hq; simp only [hqs] at hq')))
      | refine stp ?_
      | refine ifT ?_
      | refine ifF ?_
      | (refine ifQ ?_ ?_ <;> (try (intro hn)))
      | (refine ifB ?_ ?_ <;> (intro hq; try (have hq' := hq; simp only [hqs] at hq'))))
  refine aws_loopS [6, 8, 9, 10, 11, 12, 13, 14, 15, 16, 17, 18, 19, 20, 21, 22, 23, 24, 25, 26, 27, 28, 29, 30, 31, 32] [5] (fun (x : Nat × List Int) => [(6, .p (.i x.1))]) (fun x => [(5, (1, some (.box 27 (x.2.map fun n => AC.p (.k .u64 n)))))])
    (fun x => x.1 ≤ 8 ∧ x.2 = withTo v d x.1) (fun x => 8 - x.1) (0, v) ⟨Nat.zero_le _, by simp [withTo]⟩ (by exact knA) (by exact knA) ?_
  rintro ⟨j, q⟩ β γ ⟨hj, hq⟩
  simp only at hj hq
  dsimp only
  have lq : q.length = 8 := by rw [hq, withTo_len]; exact hv
  by_cases hj8 : j < 8
  · have d2 : decide ((j : Int) < 8) = true := decide_eq_true (by omega)
    have ej : (j : Int).toNat = j := Int.toNat_natCast j
    cases hr : dotF d with
    | false =>
      have hs := withTo_skip (v := v) (d := d) (i := j) (fun k => by rw [hr] at k; cases k)
      as_aux_lemma =>
        repeat' (first
            | refine rnC ?_
            | refine rnSB ?_
            | refine rnG ?_
            | refine rnU ?_
            | ((fail_if_success (refine rnKn ?_)); refine rnP ?_ ?_ <;> (intro hq; try (have hq' := hq; simp only [hqs] at hq')))
            | refine rkC ?_
            | refine rkSB ?_
            | refine rkF ?_
            | refine rkU ?_
            | ((fail_if_success (refine rkKn ?_)); refine rkP ?_ ?_ <;> (intro hq; try (have hq' := hq; simp only [hqs] at hq')))
            | refine stp ?_
            | refine aws_draws [] mixed (by kernel_rfl) ?_
            | refine ifT ?_
            | refine ifF ?_
            | (refine ifQ ?_ ?_ <;> (try (intro hn)))
            | (refine ifB ?_ ?_ <;> (intro hq; try (have hq' := hq; simp only [hqs] at hq'))))
        exact ⟨(j + 1, q), _, by dsimp only; omega, ⟨by dsimp only; omega, by rw [hs]; exact hq⟩, .refl, by exact frA⟩
    | true =>
      by_cases hn : (j : Int) + 1 = d.1
      · have d3 : decide ((j : Int) + 1 = d.1) = true := decide_eq_true hn
        have hs := withTo_at (v := v) hr hn (by omega)
        rw [← hq] at hs
        by_cases hl : v.getD (j : Int).toNat default < d.2
        · have d4 : decide (v.getD (j : Int).toNat default < d.2) = true := decide_eq_true hl
          rw [ej] at hl
          rw [if_pos hl] at hs
          as_aux_lemma =>
            repeat' (first
                | refine rnC ?_
                | refine rnSB ?_
                | refine rnG ?_
                | refine rnU ?_
                | ((fail_if_success (refine rnKn ?_)); refine rnP ?_ ?_ <;> (intro hq; try (have hq' := hq; simp only [hqs] at hq')))
                | refine rkC ?_
                | refine rkSB ?_
                | refine rkF ?_
                | refine rkU ?_
                | ((fail_if_success (refine rkKn ?_)); refine rkP ?_ ?_ <;> (intro hq; try (have hq' := hq; simp only [hqs] at hq')))
                | refine stp ?_
                | refine aws_draws [] mixed (by kernel_rfl) ?_
                | refine ifT ?_
                | refine ifF ?_
                | (refine ifQ ?_ ?_ <;> (try (intro hn)))
                | (refine ifB ?_ ?_ <;> (intro hq; try (have hq' := hq; simp only [hqs] at hq'))))
            refine ⟨(j + 1, q.set (j : Int).toNat d.2), _, by dsimp only; omega, ⟨by dsimp only; omega, ?_⟩, .refl, by exact frA⟩
            dsimp only
            rw [hs, ej]
        · have d4 : decide (v.getD (j : Int).toNat default < d.2) = false := decide_eq_false hl
          rw [ej] at hl
          have hg : q.getD j default = v.getD j default := by
            rw [hq]
            unfold withTo
            have h1 := of_decide_eq_true hr
            rw [if_neg (by omega)]
          have hjq : j < q.length := by omega
          rw [if_neg hl, ← hg, getD_at hjq, List.set_getElem_self] at hs
          as_aux_lemma =>
            repeat' (first
                | refine rnC ?_
                | refine rnSB ?_
                | refine rnG ?_
                | refine rnU ?_
                | ((fail_if_success (refine rnKn ?_)); refine rnP ?_ ?_ <;> (intro hq; try (have hq' := hq; simp only [hqs] at hq')))
                | refine rkC ?_
                | refine rkSB ?_
                | refine rkF ?_
                | refine rkU ?_
                | ((fail_if_success (refine rkKn ?_)); refine rkP ?_ ?_ <;> (intro hq; try (have hq' := hq; simp only [hqs] at hq')))
                | refine stp ?_
                | refine aws_draws [] mixed (by kernel_rfl) ?_
                | refine ifT ?_
                | refine ifF ?_
                | (refine ifQ ?_ ?_ <;> (try (intro hn)))
                | (refine ifB ?_ ?_ <;> (intro hq; try (have hq' := hq; simp only [hqs] at hq'))))
            exact ⟨(j + 1, q), _, by dsimp only; omega, ⟨by dsimp only; omega, hs.symm⟩, .refl, by exact frA⟩
      · have d3 : decide ((j : Int) + 1 = d.1) = false := decide_eq_false hn
        have hs := withTo_skip (v := v) (d := d) (i := j) (fun _ => hn)
        as_aux_lemma =>
          repeat' (first
              | refine rnC ?_
              | refine rnSB ?_
              | refine rnG ?_
              | refine rnU ?_
              | ((fail_if_success (refine rnKn ?_)); refine rnP ?_ ?_ <;> (intro hq; try (have hq' := hq; simp only [hqs] at hq')))
              | refine rkC ?_
              | refine rkSB ?_
              | refine rkF ?_
              | refine rkU ?_
              | ((fail_if_success (refine rkKn ?_)); refine rkP ?_ ?_ <;> (intro hq; try (have hq' := hq; simp only [hqs] at hq')))
              | refine stp ?_
              | refine aws_draws [] mixed (by kernel_rfl) ?_
              | refine ifT ?_
              | refine ifF ?_
              | (refine ifQ ?_ ?_ <;> (try (intro hn)))
              | (refine ifB ?_ ?_ <;> (intro hq; try (have hq' := hq; simp only [hqs] at hq'))))
          exact ⟨(j + 1, q), _, by dsimp only; omega, ⟨by dsimp only; omega, by rw [hs]; exact hq⟩, .refl, by exact frA⟩
  · have d2 : decide ((j : Int) < 8) = false := decide_eq_false (by omega)
    obtain rfl : j = 8 := by omega
    rw [withTo_all hv h0] at hq
    rw [← hq]
    as_aux_lemma =>
      repeat' (first
          | refine rnC ?_
          | refine rnSB ?_
          | refine rnG ?_
          | refine rnU ?_
          | ((fail_if_success (refine rnKn ?_)); refine rnP ?_ ?_ <;> (intro hq; try (have hq' := hq; simp only [hqs] at hq')))
          | refine rkC ?_
          | refine rkSB ?_
          | refine rkF ?_
          | refine rkU ?_
          | ((fail_if_success (refine rkKn ?_)); refine rkP ?_ ?_ <;> (intro hq; try (have hq' := hq; simp only [hqs] at hq')))
          | refine stp ?_
          | refine ifT ?_
          | refine ifF ?_
          | (refine ifQ ?_ ?_ <;> (try (intro hn)))
          | (refine ifB ?_ ?_ <;> (intro hq; try (have hq' := hq; simp only [hqs] at hq'))))
      exact rc1 rfl rfl rfl rfl rfl (by first | exact lq | (rw [List.length_map]; exact lq)) finL_p rfl
instance with3_i {v : List Int} {d : Dot} : PC Try.prog 55 [vV v, dV d] (v.length = 8 ∧ ∀ n ∈ v, 0 ≤ n) (.a (v8L (withF v d))) := ⟨fun h => with3_r v d h.1 h.2⟩
end Go.Proofs.Ytgiekdhipbikoaa.Cq
