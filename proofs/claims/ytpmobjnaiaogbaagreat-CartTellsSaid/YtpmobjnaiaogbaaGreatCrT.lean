/- carts, the laws: CartTells -/
import Derived.Test.YtpmobjnaiaogbaaGreatCrA
import Derived.Test.YtpmobjnaiaogbaaGreatCr6
namespace Go.Proofs.YtpmobjnaiaogbaaGreat.Cw
open Go Go.RowKit Go.Aw Go.Aw.Cart Go.Aw.Ord Go.Proofs.YtpmobjnaiaogbaaGreat.Ca Go.Proofs.YtpmobjnaiaogbaaGreat.Cv.R9
set_option linter.unusedVariables false
set_option linter.unusedSimpArgs false
set_option maxRecDepth 8000
set_option maxHeartbeats 4000000
theorem cartTells_w (v w : List Int) (l m : List Ent) (ex ey : Bool) (item : Int) (d : Dot) (hv : v.length = 8) (hw : w.length = 8) (hbl : ∀ e ∈ l, QB e) (hbm : ∀ e ∈ m, QB e) : PCall Tryz.prog 3 [cV v l ex, cV w m ey, .p (.i item), dV d] (.p (.b true)) := by
  refine pcall_of Tryz.func3 rfl (fun w0 F S0 M0 => ?_)
  by_cases hg : 60 < l.length
  · have d1 : decide (60 < (l.length : Int)) = true := decide_eq_true (by omega)
    as_aux_lemma =>
      repeat' (first
          | refine rnC ?_
          | refine rnSB ?_
          | refine rnG ?_
          | refine rnU ?_
          | ((fail_if_success (refine rnKn ?_)); refine rnP ?_ ?_ <;> (intro hq; try (have hq' := hq; simp only [hqs] at hq')))
          | refine rkC ?_
          | refine rkSB ?_
          | refine rkF ?_
          | refine rkU ?_
          | ((fail_if_success (refine rkKn ?_)); refine rkP ?_ ?_ <;> (intro hq; try (have hq' := hq; simp only [hqs] at hq')))
          | refine stp ?_
          | refine aws_draws [] mixed (by kernel_rfl) ?_
          | refine ifT ?_
          | refine ifF ?_
          | (refine ifQ ?_ ?_ <;> (try (intro hn)))
          | (refine ifB ?_ ?_ <;> (intro hq; try (have hq' := hq; simp only [hqs] at hq'))))
      exact rt1 rfl rfl finS_p rfl
  · have d1 : decide (60 < (l.length : Int)) = false := decide_eq_false (by omega)
    by_cases hk : 60 < m.length
    · have d2 : decide (60 < (m.length : Int)) = true := decide_eq_true (by omega)
      as_aux_lemma =>
        repeat' (first
            | refine rnC ?_
            | refine rnSB ?_
            | refine rnG ?_
            | refine rnU ?_
            | ((fail_if_success (refine rnKn ?_)); refine rnP ?_ ?_ <;> (intro hq; try (have hq' := hq; simp only [hqs] at hq')))
            | refine rkC ?_
            | refine rkSB ?_
            | refine rkF ?_
            | refine rkU ?_
            | ((fail_if_success (refine rkKn ?_)); refine rkP ?_ ?_ <;> (intro hq; try (have hq' := hq; simp only [hqs] at hq')))
            | refine stp ?_
            | refine aws_draws [] mixed (by kernel_rfl) ?_
            | refine ifT ?_
            | refine ifF ?_
            | (refine ifQ ?_ ?_ <;> (try (intro hn)))
            | (refine ifB ?_ ?_ <;> (intro hq; try (have hq' := hq; simp only [hqs] at hq'))))
        exact rt1 rfl rfl finS_p rfl
    · have d2 : decide (60 < (m.length : Int)) = false := decide_eq_false (by omega)
      have l6 : l.length ≤ 1000000 := by omega
      have m6 : m.length ≤ 1000000 := by omega
      have l9 : l.length ≤ 1000000000 := by omega
      have m9 : m.length ≤ 1000000000 := by omega
      have o6 : (ofF l item).length ≤ 1000000 := Nat.le_trans (ofF_len l item) l6
      have o9 : (ofF l item).length ≤ 1000000000 := by omega
      have v6 : (valueF l).length ≤ 1000000 := Nat.le_trans (value_len l) l6
      have v9 : (valueF l).length ≤ 1000000000 := by omega
      have s6 : (sortE l).length ≤ 1000000 := by rw [sortE_len]; exact l6
      have s9 : (sortE l).length ≤ 1000000000 := by omega
      have f6 : (liveF l).length ≤ 1000000 := by
        rw [live_set l (by omega)]
        have := setF_len (l.map dotE)
        rw [List.length_map] at this; omega
      have f9 : (liveF l).length ≤ 1000000000 := by omega
      have c1 := Cr.as_r v l ex l6
      have c2 := Cr.as_r w m ey m6
      have c3 := Cr.right_r v l false hv l9
      have c4 := Cr.same_r v w l m false false hv hw l9
      haveI : PC Tryz.prog 7 [cV v l ex] True (cV v l false) := ⟨fun _ => c1⟩
      haveI : PC Tryz.prog 7 [cV w m ey] True (cV w m false) := ⟨fun _ => c2⟩
      haveI : PC Tryz.prog 11 [cV v l false] True (.p (.b (rightF v l))) := ⟨fun _ => c3⟩
      haveI : PC Tryz.prog 13 [cV v l false, cV w m false] True (.p (.b (sameF v w l m))) := ⟨fun _ => c4⟩
      have n1 : (rightF v l != rightF v l) = false := bne_self_eq_false _
      have n2 : (sameF v w l m != sameF v w l m) = false := bne_self_eq_false _
      have n3 : decide (getQ l item ≠ getQ l item) = false := decide_eq_false fun q => q rfl
      have n4 : (decide (0 < ((ofF l item).length : Int)) != decide (0 < ((ofF l item).length : Int))) = false := bne_self_eq_false _
      have n5 : (isOffF v l d != isOffF v l d) = false := bne_self_eq_false _
      have n6 : (!decide (valueF l = valueF l)) = false := by rw [decide_eq_true rfl]; rfl
      have n7 : (decide (valueF l = valueF m) != decide (valueF l = valueF m)) = false := bne_self_eq_false _
      have n8 : (!decide (ofF l item = ofF l item)) = false := by rw [decide_eq_true rfl]; rfl
      have n9 : decide (sortE l = sortE l) = true := decide_eq_true rfl
      have n10 : decide (liveF l = liveF l) = true := decide_eq_true rfl
      clear c1 c2 c3 c4
      repeat' (first
          | refine rnC ?_
          | refine rnSB ?_
          | refine rnG ?_
          | refine rnU ?_
          | refine rkC ?_
          | refine rkSB ?_
          | refine rkF ?_
          | refine rkU ?_
          | refine stp ?_
          | refine ifT ?_
          | refine ifF ?_
          | fail)
      refine aws_draws [(4, 9), (5, 10), (6, 9), (7, 10)] mixed (by kernel_rfl) ?_
      repeat' (first
          | refine rk_nil ?_
          | refine rkC ?_
          | refine rkSB ?_
          | refine rkF ?_
          | refine rkU ?_
          | ((fail_if_success (refine rkKn ?_)); refine rkP ?_ ?_ <;> (intro hq; try (have hq' := hq; simp only [hqs] at hq'))))
      repeat' (first
          | refine rnC ?_
          | refine rnSB ?_
          | refine rnG ?_
          | refine rnU ?_
          | refine rkC ?_
          | refine rkSB ?_
          | refine rkF ?_
          | refine rkU ?_
          | refine stp ?_
          | refine aws_draws [] mixed (by kernel_rfl) ?_
          | refine ifT ?_
          | refine ifF ?_
          | fail)
      refine aws_loopS [8, 15, 75, 76, 77, 78, 79, 80, 81, 82, 83, 84, 85, 86, 87, 88, 89, 90, 91, 92, 93, 94, 95] [] (fun (i : Nat) => [(15, .p (.i i))]) (fun _ => []) (fun i => i ≤ l.length) (fun i => l.length - i) 0 (Nat.zero_le _) (by exact knA) (by exact knA) ?_
      intro i β γ hi
      by_cases hil : i < l.length
      · have q0 : decide ((i : Int) < (l.length : Int)) = true := decide_eq_true (by omega)
        have hd := congrArg not (vEqD (dotE (l.getD (i : Int).toNat default)) (dotE (l.getD (i : Int).toNat default)))
        rw [decide_eq_true rfl, Bool.not_true] at hd
        as_aux_lemma =>
          repeat' (first
              | refine rnC ?_
              | refine rnSB ?_
              | refine rnG ?_
              | refine rnU ?_
              | ((fail_if_success (refine rnKn ?_)); refine rnP ?_ ?_ <;> (intro hq; try (have hq' := hq; simp only [hqs] at hq')))
              | refine rkC ?_
              | refine rkSB ?_
              | refine rkF ?_
              | refine rkU ?_
              | ((fail_if_success (refine rkKn ?_)); refine rkP ?_ ?_ <;> (intro hq; try (have hq' := hq; simp only [hqs] at hq')))
              | refine stp ?_
              | refine aws_draws [] mixed (by kernel_rfl) ?_
              | refine ifT ?_
              | refine ifF ?_
              | (refine ifQ ?_ ?_ <;> (try (intro hn)))
              | (refine ifB ?_ ?_ <;> (intro hq; try (have hq' := hq; simp only [hqs] at hq'))))
          exact ⟨i + 1, _, by omega, by omega, .refl, by exact frA⟩
      · have q0 : decide ((i : Int) < (l.length : Int)) = false := decide_eq_false (by omega)
        as_aux_lemma =>
          repeat' (first
              | refine rnC ?_
              | refine rnSB ?_
              | refine rnG ?_
              | refine rnU ?_
              | ((fail_if_success (refine rnKn ?_)); refine rnP ?_ ?_ <;> (intro hq; try (have hq' := hq; simp only [hqs] at hq')))
              | refine rkC ?_
              | refine rkSB ?_
              | refine rkF ?_
              | refine rkU ?_
              | ((fail_if_success (refine rkKn ?_)); refine rkP ?_ ?_ <;> (intro hq; try (have hq' := hq; simp only [hqs] at hq')))
              | refine stp ?_
              | refine aws_draws [] mixed (by kernel_rfl) ?_
              | refine ifT ?_
              | refine ifF ?_
              | (refine ifQ ?_ ?_ <;> (try (intro hn)))
              | (refine ifB ?_ ?_ <;> (intro hq; try (have hq' := hq; simp only [hqs] at hq'))))
          exact rt1 rfl rfl finS_p (rb n10.symm)
end Go.Proofs.YtpmobjnaiaogbaaGreat.Cw
