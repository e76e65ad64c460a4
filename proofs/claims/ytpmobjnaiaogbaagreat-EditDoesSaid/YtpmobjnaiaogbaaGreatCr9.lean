/- the reference, chapter 06: what a cart has, is worth, and what is off -/
import Derived.Test.YtpmobjnaiaogbaaGreatCr3
import Derived.Test.YtpmobjnaiaogbaaGreatCr7
import Derived.Test.YtpmobjnaiaogbaaGreatCr8
namespace Go.Proofs.YtpmobjnaiaogbaaGreat.Cv
open Go Go.RowKit Go.Aw Go.Aw.Cart Go.Aw.Ord Go.Proofs.YtpmobjnaiaogbaaGreat.Ca
set_option linter.unusedVariables false
set_option linter.unusedSimpArgs false
set_option maxRecDepth 8000
set_option maxHeartbeats 4000000
namespace R9
theorem lopC {C : Ctx} {o : Oper} {σ : St} {e : Eff} {ro : Nat → Bool} (h : LOp C o σ e ro := by
    first
      | exact Go.Proofs.YtpmobjnaiaogbaaGreat.Cd.R7.lopC
      | (apply lop_call1; (focus rfl); (focus exact inferInstance); (focus exact lk_cart rfl); (focus exact inferInstance); (focus exact inferInstance); (focus first | exact True.intro | assumption | rfl | omega | ((repeat' (first | assumption | refine And.intro ?_ ?_ | omega | rfl)); done) | fail); (focus rfl))
            | (apply lop_call2; (focus rfl); (focus exact inferInstance); (focus exact lk_cart rfl); (focus exact lk_cart rfl); (focus exact inferInstance); (focus exact inferInstance); (focus first | exact True.intro | assumption | rfl | omega | ((repeat' (first | assumption | refine And.intro ?_ ?_ | omega | rfl)); done) | fail); (focus rfl))
            | (apply lop_call2; (focus rfl); (focus exact inferInstance); (focus exact lk_cart rfl); (focus first | exact lk_m1 rfl | exact lk_m2 rfl | exact lk_m3 rfl | exact lk_o rfl | exact lk_a2 rfl | exact lk_a3 rfl | exact lk_a4 rfl | exact lk_a1 rfl | exact lk_a5 rfl | exact lk_a6 rfl | exact lk_a7 rfl | exact lk_a8 rfl | exact lk_a rfl); (focus exact inferInstance); (focus exact inferInstance); (focus first | exact True.intro | assumption | rfl | omega | ((repeat' (first | assumption | refine And.intro ?_ ?_ | omega | rfl)); done) | fail); (focus rfl))
      | fail) : LOp C o σ e ro := h
section steps
variable {C : Ctx} {ops : Array Oper} {o : Oper} {rest : List Oper} {K : St → Prop} {σ : St} {e : Eff} {ro : Nat → Bool} {W : List (Nat × Nat)} {i : Nat}
theorem rnC {d : Nat} (hk : RunN C ops rest K (e.app (some d) σ)) (hg : Guard ops σ o true := by first | exact gd_n rfl rfl | exact gd_t rfl rfl rfl rfl | exact gd_t rfl rfl rfl (by assumption)) (hd : o.dst = some d := by rfl) (h : LOp C o σ e ro := by exact lopC) : RunN C ops (o :: rest) K σ := rn_any hg hd h hk
theorem rkC {d : Nat} (hk : RunK C ops W (i + 1) rest K (e.app (some d) σ)) (hg : Guard ops σ o true := by first | exact gd_n rfl rfl | exact gd_t rfl rfl rfl rfl | exact gd_t rfl rfl rfl (by assumption)) (hd' : o.dst = some d := by rfl) (hd : dOk C o.dst = true := by rfl) (h : LOp C o σ e ro := by exact lopC)
    (hro : ∀ x, ro x = true → okObj ops W i x = true := by first | exact fun _ => ro_none | exact ro_one rfl | exact ro_k1 rfl | exact ro_one (by kernel_rfl) | exact ro_k1 (by kernel_rfl) | exact ro_kIn (by decide)) (hob : ∀ p ∈ e.obj, (i, p.1) ∈ W := by first | exact ob_none | exact ob_one (by decide) | decide) : RunK C ops W i (o :: rest) K σ := rk_wr hg hd' hd h hro hob hk
end steps
end R9
open R9
theorem snocE {p : Ent → Bool} {l : List Ent} {i : Nat} (hi : i < l.length) : (l.take (i + 1)).filter p = (l.take i).filter p ++ (if p (l.getD i default) = true then [l.getD i default] else []) := by
  rw [take_get' hi, List.filter_append]
  congr 1
  by_cases h : p (l.getD i default) = true
  · rw [if_pos h, List.filter_cons_of_pos h]; rfl
  · rw [if_neg h, List.filter_cons_of_neg h]; rfl
theorem of6_r (v : List Int) (l : List Ent) (ex : Bool) (item : Int) (h : l.length ≤ 1000000) : PCall Tryz.prog 27 [cV v l ex, .p (.i item)] (.p (.sl 4 ((ofF l item).map eR) false)) := by
  refine pcall_of Tryz.func27 rfl (fun w0 F S0 M0 => ?_)
  repeat' (first
      | refine rnC ?_
      | refine rnSB ?_
      | refine rnG ?_
      | refine rnU ?_
      | ((fail_if_success (refine rnKn ?_)); refine rnP ?_ ?_ <;> (intro hq; try (have hq' := hq; simp only [hqs] at hq')))
      | refine rkC ?_
      | refine rkSB ?_
      | refine rkF ?_
      | refine rkU ?_
      | ((fail_if_success (refine rkKn ?_)); refine rkP ?_ ?_ <;> (intro hq; try (have hq' := hq; simp only [hqs] at hq')))
      | refine stp ?_
      | refine ifT ?_
      | refine ifF ?_
      | (refine ifQ ?_ ?_ <;> (try (intro hn)))
      | (refine ifB ?_ ?_ <;> (intro hq; try (have hq' := hq; simp only [hqs] at hq'))))
  refine aws_says (says_nil (t := 5) (o := 901) (ty := 50) (es := 4) rfl rfl (by decide)) ?_
  refine aws_loopS [5, 6, 7, 8, 9, 10, 11, 12, 13, 14, 15, 16, 17, 18, 19, 20, 21, 22, 23, 24, 25, 26, 27, 28, 29] [901] (fun (x : Nat × Nat × List Ent) => [(6, .p (.i x.1)), (5, .o (.osl 901 x.2.1 4 0 x.2.2.length))]) (fun x => [(901, (x.2.1 + 1, some (.buf 50 4 (x.2.2.map eR))))])
    (fun x => x.1 ≤ l.length ∧ x.2.2 = (l.take x.1).filter fun e => decide (e.1 = item)) (fun x => l.length - x.1) (0, 0, []) ⟨Nat.zero_le _, rfl⟩ (by exact knA) (by exact knA) ?_
  rintro ⟨i, g, m⟩ β γ ⟨hi, hm⟩
  simp only at hi hm
  have hml : m.length ≤ 1000000 := by
    have := List.length_filter_le (fun e : Ent => decide (e.1 = item)) (l.take i)
    rw [hm]; rw [List.length_take] at this; omega
  dsimp only
  by_cases hil : i < l.length
  · have hd : decide ((i : Int) < (l.length : Int)) = true := decide_eq_true (by omega)
    have hst := snocE (p := fun e => decide (e.1 = item)) hil
    rw [← hm] at hst
    have ei : (i : Int).toNat = i := Int.toNat_natCast i
    by_cases hq : (l.getD (i : Int).toNat default).1 = item
    · have d1 : decide ((l.getD (i : Int).toNat default).1 = item) = true := decide_eq_true hq
      rw [if_pos (by rw [ei] at d1; exact d1)] at hst
      as_aux_lemma =>
        repeat' (first
            | refine rnC ?_
            | refine rnSB ?_
            | refine rnG ?_
            | refine rnU ?_
            | ((fail_if_success (refine rnKn ?_)); refine rnP ?_ ?_ <;> (intro hq; try (have hq' := hq; simp only [hqs] at hq')))
            | refine rkC ?_
            | refine rkSB ?_
            | refine rkF ?_
            | refine rkU ?_
            | ((fail_if_success (refine rkKn ?_)); refine rkP ?_ ?_ <;> (intro hq; try (have hq' := hq; simp only [hqs] at hq')))
            | refine stp ?_
            | refine ifT ?_
            | refine ifF ?_
            | (refine ifQ ?_ ?_ <;> (try (intro hn)))
            | (refine ifB ?_ ?_ <;> (intro hq; try (have hq' := hq; simp only [hqs] at hq'))))
        refine ⟨(i + 1, g + 1, m ++ [(_, _, _, _)]), _, by dsimp only; omega, ⟨by dsimp only; omega, ?_⟩, .refl, by exact frA⟩
        dsimp only
        rw [hst, ei]
    · have d1 : decide ((l.getD (i : Int).toNat default).1 = item) = false := decide_eq_false hq
      rw [if_neg (by rw [ei] at d1; rw [d1]; simp), List.append_nil] at hst
      as_aux_lemma =>
        repeat' (first
            | refine rnC ?_
            | refine rnSB ?_
            | refine rnG ?_
            | refine rnU ?_
            | ((fail_if_success (refine rnKn ?_)); refine rnP ?_ ?_ <;> (intro hq; try (have hq' := hq; simp only [hqs] at hq')))
            | refine rkC ?_
            | refine rkSB ?_
            | refine rkF ?_
            | refine rkU ?_
            | ((fail_if_success (refine rkKn ?_)); refine rkP ?_ ?_ <;> (intro hq; try (have hq' := hq; simp only [hqs] at hq')))
            | refine stp ?_
            | refine ifT ?_
            | refine ifF ?_
            | (refine ifQ ?_ ?_ <;> (try (intro hn)))
            | (refine ifB ?_ ?_ <;> (intro hq; try (have hq' := hq; simp only [hqs] at hq'))))
        exact ⟨(i + 1, g, m), _, by dsimp only; omega, ⟨by dsimp only; omega, hst.symm⟩, .refl, by exact frA⟩
  · have hd : decide ((i : Int) < (l.length : Int)) = false := decide_eq_false (by omega)
    have e : ofF l item = m := by rw [hm, List.take_of_length_le (by omega)]; rfl
    rw [e]
    as_aux_lemma =>
      repeat' (first
          | refine rnC ?_
          | refine rnSB ?_
          | refine rnG ?_
          | refine rnU ?_
          | ((fail_if_success (refine rnKn ?_)); refine rnP ?_ ?_ <;> (intro hq; try (have hq' := hq; simp only [hqs] at hq')))
          | refine rkC ?_
          | refine rkSB ?_
          | refine rkF ?_
          | refine rkU ?_
          | ((fail_if_success (refine rkKn ?_)); refine rkP ?_ ?_ <;> (intro hq; try (have hq' := hq; simp only [hqs] at hq')))
          | refine stp ?_
          | refine ifT ?_
          | refine ifF ?_
          | (refine ifQ ?_ ?_ <;> (try (intro hn)))
          | (refine ifB ?_ ?_ <;> (intro hq; try (have hq' := hq; simp only [hqs] at hq'))))
      exact rt1 rfl rfl (.one (finC_map rfl rfl rfl rfl)) rfl
instance of6_i {v : List Int} {l : List Ent} {ex : Bool} {item : Int} : PC Tryz.prog 27 [cV v l ex, .p (.i item)] (l.length ≤ 1000000) (.p (.sl 4 ((ofF l item).map eR) false)) := ⟨of6_r v l ex item⟩
theorem get6_r (v : List Int) (l : List Ent) (ex : Bool) (item : Int) (h : l.length ≤ 1000000) (hb : ∀ e ∈ l, QB e) : PCall Tryz.prog 9 [cV v l ex, .p (.i item)] (.tup [.one (.p (.k .u64 (getQ l item))), .one (.p (.b (decide (0 < ((ofF l item).length : Int)))))]) := by
  refine pcall_of Tryz.func9 rfl (fun w0 F S0 M0 => ?_)
  have hm := ofF_len l item
  have hb' : ∀ e ∈ ofF l item, QB e := fun e he => hb e (ofF_mem.1 he).1
  rw [show getQ l item = valF (tTo (ofF l item) (ofF l item).length) from rfl]
  repeat' (first
      | refine rnC ?_
      | refine rnSB ?_
      | refine rnG ?_
      | refine rnU ?_
      | ((fail_if_success (refine rnKn ?_)); refine rnP ?_ ?_ <;> (intro hq; try (have hq' := hq; simp only [hqs] at hq')))
      | refine rkC ?_
      | refine rkSB ?_
      | refine rkF ?_
      | refine rkU ?_
      | ((fail_if_success (refine rkKn ?_)); refine rkP ?_ ?_ <;> (intro hq; try (have hq' := hq; simp only [hqs] at hq')))
      | refine stp ?_
      | refine ifT ?_
      | refine ifF ?_
      | (refine ifQ ?_ ?_ <;> (try (intro hn)))
      | (refine ifB ?_ ?_ <;> (intro hq; try (have hq' := hq; simp only [hqs] at hq'))))
  refine aws_loopS [8, 13, 14, 15, 16, 17, 18, 19, 20, 21, 22, 23, 24, 25] [7] (fun (i : Nat) => [(8, .p (.i i))]) (fun i => [(7, (1, some (.box 95 (tL (tTo (ofF l item) i)))))])
    (fun i => i ≤ (ofF l item).length) (fun i => (ofF l item).length - i) 0 (Nat.zero_le _) (by exact knA) (by exact knA) ?_
  intro i β γ hi
  obtain ⟨t1, t2, t3, t4⟩ := tTo_in (ofF l item) i
  have t2' : (tTo (ofF l item) i).1 < 18446744073709551616 := by omega
  have t4' : (tTo (ofF l item) i).2 < 18446744073709551616 := by omega
  by_cases hil : i < (ofF l item).length
  · have hd : decide ((i : Int) < ((ofF l item).length : Int)) = true := decide_eq_true (by omega)
    obtain ⟨q1, q2⟩ := getD_in hb' (i := (i : Int).toNat) (by omega)
    have e : tTo (ofF l item) (i + 1) = addF (tTo (ofF l item) i) ((ofF l item).getD (i : Int).toNat default).2.2.2 := by rw [Int.toNat_natCast]; rfl
    repeat' (first
        | refine rnC ?_
        | refine rnSB ?_
        | refine rnG ?_
        | refine rnU ?_
        | ((fail_if_success (refine rnKn ?_)); refine rnP ?_ ?_ <;> (intro hq; try (have hq' := hq; simp only [hqs] at hq')))
        | refine rkC ?_
        | refine rkSB ?_
        | refine rkF ?_
        | refine rkU ?_
        | ((fail_if_success (refine rkKn ?_)); refine rkP ?_ ?_ <;> (intro hq; try (have hq' := hq; simp only [hqs] at hq')))
        | refine stp ?_
        | refine ifT ?_
        | refine ifF ?_
        | (refine ifQ ?_ ?_ <;> (try (intro hn)))
        | (refine ifB ?_ ?_ <;> (intro hq; try (have hq' := hq; simp only [hqs] at hq'))))
    refine aws_draws [(7, 7)] mixed (by kernel_rfl) ?_
    repeat' (first
        | refine rk_nil ?_
        | refine rkC ?_
        | refine rkSB ?_
        | refine rkF ?_
        | refine rkU ?_
        | ((fail_if_success (refine rkKn ?_)); refine rkP ?_ ?_ <;> (intro hq; try (have hq' := hq; simp only [hqs] at hq'))))
    as_aux_lemma =>
      repeat' (first
          | refine rnC ?_
          | refine rnSB ?_
          | refine rnG ?_
          | refine rnU ?_
          | ((fail_if_success (refine rnKn ?_)); refine rnP ?_ ?_ <;> (intro hq; try (have hq' := hq; simp only [hqs] at hq')))
          | refine rkC ?_
          | refine rkSB ?_
          | refine rkF ?_
          | refine rkU ?_
          | ((fail_if_success (refine rkKn ?_)); refine rkP ?_ ?_ <;> (intro hq; try (have hq' := hq; simp only [hqs] at hq')))
          | refine stp ?_
          | refine ifT ?_
          | refine ifF ?_
          | (refine ifQ ?_ ?_ <;> (try (intro hn)))
          | (refine ifB ?_ ?_ <;> (intro hq; try (have hq' := hq; simp only [hqs] at hq'))))
      refine ⟨i + 1, _, by omega, by omega, .refl, ?_⟩
      rw [e]
      exact frA
  · have hd : decide ((i : Int) < ((ofF l item).length : Int)) = false := decide_eq_false (by omega)
    obtain rfl : i = (ofF l item).length := by omega
    as_aux_lemma =>
      repeat' (first
          | refine rnC ?_
          | refine rnSB ?_
          | refine rnG ?_
          | refine rnU ?_
          | ((fail_if_success (refine rnKn ?_)); refine rnP ?_ ?_ <;> (intro hq; try (have hq' := hq; simp only [hqs] at hq')))
          | refine rkC ?_
          | refine rkSB ?_
          | refine rkF ?_
          | refine rkU ?_
          | ((fail_if_success (refine rkKn ?_)); refine rkP ?_ ?_ <;> (intro hq; try (have hq' := hq; simp only [hqs] at hq')))
          | refine stp ?_
          | refine ifT ?_
          | refine ifF ?_
          | (refine ifQ ?_ ?_ <;> (try (intro hn)))
          | (refine ifB ?_ ?_ <;> (intro hq; try (have hq' := hq; simp only [hqs] at hq'))))
      exact rt2 rfl rfl finS_p rfl finS_p rfl
instance get6_i {v : List Int} {l : List Ent} {ex : Bool} {item : Int} : PC Tryz.prog 9 [cV v l ex, .p (.i item)] (l.length ≤ 1000000 ∧ ∀ e ∈ l, QB e) (.tup [.one (.p (.k .u64 (getQ l item))), .one (.p (.b (decide (0 < ((ofF l item).length : Int)))))]) := ⟨fun h => get6_r v l ex item h.1 h.2⟩
theorem isOff6_r (v : List Int) (l : List Ent) (ex : Bool) (d : Dot) (hv : v.length = 8) (h : l.length ≤ 1000000) : PCall Tryz.prog 15 [cV v l ex, dV d] (.p (.b (isOffF v l d))) := by
  refine pcall_of Tryz.func15 rfl (fun w0 F S0 M0 => ?_)
  repeat' (first
      | refine rnC ?_
      | refine rnSB ?_
      | refine rnG ?_
      | refine rnU ?_
      | ((fail_if_success (refine rnKn ?_)); refine rnP ?_ ?_ <;> (intro hq; try (have hq' := hq; simp only [hqs] at hq')))
      | refine rkC ?_
      | refine rkSB ?_
      | refine rkF ?_
      | refine rkU ?_
      | ((fail_if_success (refine rkKn ?_)); refine rkP ?_ ?_ <;> (intro hq; try (have hq' := hq; simp only [hqs] at hq')))
      | refine stp ?_
      | refine ifT ?_
      | refine ifF ?_
      | (refine ifQ ?_ ?_ <;> (try (intro hn)))
      | (refine ifB ?_ ?_ <;> (intro hq; try (have hq' := hq; simp only [hqs] at hq'))))
  refine aws_loopS [4, 5, 6, 7, 8, 9, 10, 11, 12, 13, 14, 15, 16, 17, 18, 19, 20] [] (fun (i : Nat) => [(5, .p (.i i))]) (fun _ => []) (fun i => i ≤ l.length ∧ ∀ j, j < i → dotE (l.getD j default) ≠ d) (fun i => l.length - i) 0 ⟨Nat.zero_le _, fun j hj => absurd hj (Nat.not_lt_zero _)⟩ (by exact knA) (by exact knA) ?_
  rintro i β γ ⟨hi, hx⟩
  by_cases hil : i < l.length
  · have hlt : decide ((i : Int) < (l.length : Int)) = true := decide_eq_true (by omega)
    have hd := vEqD (dotE (l.getD (i : Int).toNat default)) d
    by_cases hq : dotE (l.getD (i : Int).toNat default) = d
    · rw [decide_eq_true hq] at hd
      have e : isOffF v l d = false := by
        unfold isOffF
        have : (l.any fun e => decide (dotE e = d)) = true := List.any_eq_true.2 ⟨l.getD i default, by rw [getD_at hil]; exact List.getElem_mem _, decide_eq_true (by rw [Int.toNat_natCast] at hq; exact hq)⟩
        rw [this]; simp
      rw [e]
      as_aux_lemma =>
        repeat' (first
            | refine rnC ?_
            | refine rnSB ?_
            | refine rnG ?_
            | refine rnU ?_
            | ((fail_if_success (refine rnKn ?_)); refine rnP ?_ ?_ <;> (intro hq; try (have hq' := hq; simp only [hqs] at hq')))
            | refine rkC ?_
            | refine rkSB ?_
            | refine rkF ?_
            | refine rkU ?_
            | ((fail_if_success (refine rkKn ?_)); refine rkP ?_ ?_ <;> (intro hq; try (have hq' := hq; simp only [hqs] at hq')))
            | refine stp ?_
            | refine aws_draws [] mixed (by kernel_rfl) ?_
            | refine ifT ?_
            | refine ifF ?_
            | (refine ifQ ?_ ?_ <;> (try (intro hn)))
            | (refine ifB ?_ ?_ <;> (intro hq; try (have hq' := hq; simp only [hqs] at hq'))))
        exact rt1 rfl rfl finS_p rfl
    · rw [decide_eq_false hq] at hd
      rw [Int.toNat_natCast] at hq
      repeat' (first
          | refine rnC ?_
          | refine rnSB ?_
          | refine rnG ?_
          | refine rnU ?_
          | ((fail_if_success (refine rnKn ?_)); refine rnP ?_ ?_ <;> (intro hq; try (have hq' := hq; simp only [hqs] at hq')))
          | refine rkC ?_
          | refine rkSB ?_
          | refine rkF ?_
          | refine rkU ?_
          | ((fail_if_success (refine rkKn ?_)); refine rkP ?_ ?_ <;> (intro hq; try (have hq' := hq; simp only [hqs] at hq')))
          | refine stp ?_
          | refine aws_draws [] mixed (by kernel_rfl) ?_
          | refine ifT ?_
          | refine ifF ?_
          | (refine ifQ ?_ ?_ <;> (try (intro hn)))
          | (refine ifB ?_ ?_ <;> (intro hq; try (have hq' := hq; simp only [hqs] at hq'))))
      refine ⟨i + 1, _, by omega, ⟨by omega, fun j hj => ?_⟩, .refl, by exact frA⟩
      by_cases ej : j = i
      · rw [ej]; exact hq
      · exact hx j (by omega)
  · have hlt : decide ((i : Int) < (l.length : Int)) = false := decide_eq_false (by omega)
    have e : isOffF v l d = hasF v d := by
      unfold isOffF
      have : (l.any fun e => decide (dotE e = d)) = false := List.any_eq_false.2 fun e he => by
        obtain ⟨j, hj, rfl⟩ := getD_mem he
        rw [decide_eq_true_eq]; exact hx j (by omega)
      rw [this]; simp
    rw [e]
    as_aux_lemma =>
      repeat' (first
          | refine rnC ?_
          | refine rnSB ?_
          | refine rnG ?_
          | refine rnU ?_
          | ((fail_if_success (refine rnKn ?_)); refine rnP ?_ ?_ <;> (intro hq; try (have hq' := hq; simp only [hqs] at hq')))
          | refine rkC ?_
          | refine rkSB ?_
          | refine rkF ?_
          | refine rkU ?_
          | ((fail_if_success (refine rkKn ?_)); refine rkP ?_ ?_ <;> (intro hq; try (have hq' := hq; simp only [hqs] at hq')))
          | refine stp ?_
          | refine aws_draws [] mixed (by kernel_rfl) ?_
          | refine ifT ?_
          | refine ifF ?_
          | (refine ifQ ?_ ?_ <;> (try (intro hn)))
          | (refine ifB ?_ ?_ <;> (intro hq; try (have hq' := hq; simp only [hqs] at hq'))))
      exact rt1 rfl rfl finS_p rfl
instance isOff6_i {v : List Int} {l : List Ent} {ex : Bool} {d : Dot} : PC Tryz.prog 15 [cV v l ex, dV d] (v.length = 8 ∧ l.length ≤ 1000000) (.p (.b (isOffF v l d))) := ⟨fun h => isOff6_r v l ex d h.1 h.2⟩
theorem live6_r (v : List Int) (l : List Ent) (ex : Bool) (h : l.length ≤ 1000000) : PCall Tryz.prog 33 [cV v l ex] (.p (.sl 2 ((liveF l).map dR) false)) := by
  refine pcall_of Tryz.func33 rfl (fun w0 F S0 M0 => ?_)
  unfold liveF
  repeat' (first
      | refine rnC ?_
      | refine rnSB ?_
      | refine rnG ?_
      | refine rnU ?_
      | ((fail_if_success (refine rnKn ?_)); refine rnP ?_ ?_ <;> (intro hq; try (have hq' := hq; simp only [hqs] at hq')))
      | refine rkC ?_
      | refine rkSB ?_
      | refine rkF ?_
      | refine rkU ?_
      | ((fail_if_success (refine rkKn ?_)); refine rkP ?_ ?_ <;> (intro hq; try (have hq' := hq; simp only [hqs] at hq')))
      | refine stp ?_
      | refine ifT ?_
      | refine ifF ?_
      | (refine ifQ ?_ ?_ <;> (try (intro hn)))
      | (refine ifB ?_ ?_ <;> (intro hq; try (have hq' := hq; simp only [hqs] at hq'))))
  refine aws_says (says_nil (t := 3) (o := 901) (ty := 44) (es := 2) rfl rfl (by decide)) ?_
  refine aws_loopS [3, 4, 5, 6, 7, 8, 9, 10, 11, 12, 13, 14, 15, 16, 17, 18, 19, 20] [901] (fun (x : Nat × List Dot) => [(4, .p (.i x.1)), (3, .o (.osl 901 x.1 2 0 x.2.length))]) (fun x => [(901, (x.1 + 1, some (.buf 44 2 (x.2.map dR))))])
    (fun x => x.1 ≤ l.length ∧ x.2 = (l.take x.1).map dotE) (fun x => l.length - x.1) (0, []) ⟨Nat.zero_le _, rfl⟩ (by exact knA) (by exact knA) ?_
  rintro ⟨i, m⟩ β γ ⟨hi, hm⟩
  simp only at hi hm
  have hml : m.length = i := by rw [hm, List.length_map, List.length_take]; omega
  dsimp only
  by_cases hil : i < l.length
  · have hd : decide ((i : Int) < (l.length : Int)) = true := decide_eq_true (by omega)
    as_aux_lemma =>
      repeat' (first
          | refine rnC ?_
          | refine rnSB ?_
          | refine rnG ?_
          | refine rnU ?_
          | ((fail_if_success (refine rnKn ?_)); refine rnP ?_ ?_ <;> (intro hq; try (have hq' := hq; simp only [hqs] at hq')))
          | refine rkC ?_
          | refine rkSB ?_
          | refine rkF ?_
          | refine rkU ?_
          | ((fail_if_success (refine rkKn ?_)); refine rkP ?_ ?_ <;> (intro hq; try (have hq' := hq; simp only [hqs] at hq')))
          | refine stp ?_
          | refine ifT ?_
          | refine ifF ?_
          | (refine ifQ ?_ ?_ <;> (try (intro hn)))
          | (refine ifB ?_ ?_ <;> (intro hq; try (have hq' := hq; simp only [hqs] at hq'))))
      refine ⟨(i + 1, m ++ [(_, _)]), _, by dsimp only; omega, ⟨by dsimp only; omega, ?_⟩, .refl, by exact frA⟩
      dsimp only
      rw [hm, take_get' hil, List.map_append, Int.toNat_natCast]; rfl
  · have hd : decide ((i : Int) < (l.length : Int)) = false := decide_eq_false (by omega)
    have e : l.map dotE = m := by rw [hm, List.take_of_length_le (by omega)]
    have hm9 : m.length ≤ 1000000000 := by omega
    rw [e]
    refine aws_says (says_frz (t := 3) (o := 901) rfl rfl rfl (by rw [List.length_map])) ?_
    as_aux_lemma =>
      repeat' (first
          | refine rnC ?_
          | refine rnSB ?_
          | refine rnG ?_
          | refine rnU ?_
          | ((fail_if_success (refine rnKn ?_)); refine rnP ?_ ?_ <;> (intro hq; try (have hq' := hq; simp only [hqs] at hq')))
          | refine rkC ?_
          | refine rkSB ?_
          | refine rkF ?_
          | refine rkU ?_
          | ((fail_if_success (refine rkKn ?_)); refine rkP ?_ ?_ <;> (intro hq; try (have hq' := hq; simp only [hqs] at hq')))
          | refine stp ?_
          | refine ifT ?_
          | refine ifF ?_
          | (refine ifQ ?_ ?_ <;> (try (intro hn)))
          | (refine ifB ?_ ?_ <;> (intro hq; try (have hq' := hq; simp only [hqs] at hq'))))
      exact rt1 rfl rfl finS_p rfl
instance live6_i {v : List Int} {l : List Ent} {ex : Bool} : PC Tryz.prog 33 [cV v l ex] (l.length ≤ 1000000) (.p (.sl 2 ((liveF l).map dR) false)) := ⟨live6_r v l ex⟩
end Go.Proofs.YtpmobjnaiaogbaaGreat.Cv
