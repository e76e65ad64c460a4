/- trees, the laws: again -/
import Derived.Test.YtbhcdkhejgkhaaaTrH
import Derived.Test.YtbhcdkhejgkhaaaTrB
import Derived.Test.YtbhcdkhejgkhaaaTrC
import Derived.Test.YtbhcdkhejgkhaaaTrG
namespace Go.Proofs.Ytbhcdkhejgkhaaa.Tr
open Go Go.RowKit Go.Aw Go.Aw.Sha Go.Aw.Tree Go.Proofs.Ytbhcdkhejgkhaaa.Sh
set_option linter.unusedVariables false
set_option linter.unusedSimpArgs false
set_option maxRecDepth 8000
set_option maxHeartbeats 4000000
attribute [local irreducible] sum

theorem again_c (ls ms : List (List Nat)) (turn : Int) (hl : ls.length = 16) (hm : ms.length = 16) : PCall Try.prog 13 [txs ls, txs ms, .p (.i turn)] (.p (.b true)) := by
  refine pcall_of Try.func13 rfl (fun w0 F S0 M0 => ?_)
  cases hg : greatF ls with
  | true =>
    repeat' (first
        | refine rnB ?_
        | refine rnSB ?_
        | refine rnG ?_
        | refine rnU ?_
        | ((fail_if_success (refine rnKn ?_)); refine rnP ?_ ?_ <;> (intro hq; try (have hq' := hq; simp only [hqs] at hq')))
        | refine rkB ?_
        | refine rkSB ?_
        | refine rkF ?_
        | refine rkU ?_
        | ((fail_if_success (refine rkKn ?_)); refine rkP ?_ ?_ <;> (intro hq; try (have hq' := hq; simp only [hqs] at hq')))
        | refine stp ?_
        | refine ifT ?_
        | refine ifF ?_
        | (refine ifQ ?_ ?_ <;> (try (intro hn)))
        | (refine ifB ?_ ?_ <;> (intro hq; try (have hq' := hq; simp only [hqs] at hq'))))
    exact rt1 rfl rfl finS_p rfl
  | false =>
    cases hg' : greatF ms with
    | true =>
      repeat' (first
          | refine rnB ?_
          | refine rnSB ?_
          | refine rnG ?_
          | refine rnU ?_
          | ((fail_if_success (refine rnKn ?_)); refine rnP ?_ ?_ <;> (intro hq; try (have hq' := hq; simp only [hqs] at hq')))
          | refine rkB ?_
          | refine rkSB ?_
          | refine rkF ?_
          | refine rkU ?_
          | ((fail_if_success (refine rkKn ?_)); refine rkP ?_ ?_ <;> (intro hq; try (have hq' := hq; simp only [hqs] at hq')))
          | refine stp ?_
          | refine ifT ?_
          | refine ifF ?_
          | (refine ifQ ?_ ?_ <;> (try (intro hn)))
          | (refine ifB ?_ ?_ <;> (intro hq; try (have hq' := hq; simp only [hqs] at hq'))))
      exact rt1 rfl rfl finS_p rfl
    | false =>
      by_cases ht0 : turn < 0
      · have hd : decide (turn < 0) = true := decide_eq_true ht0
        repeat' (first
            | refine rnB ?_
            | refine rnSB ?_
            | refine rnG ?_
            | refine rnU ?_
            | ((fail_if_success (refine rnKn ?_)); refine rnP ?_ ?_ <;> (intro hq; try (have hq' := hq; simp only [hqs] at hq')))
            | refine rkB ?_
            | refine rkSB ?_
            | refine rkF ?_
            | refine rkU ?_
            | ((fail_if_success (refine rkKn ?_)); refine rkP ?_ ?_ <;> (intro hq; try (have hq' := hq; simp only [hqs] at hq')))
            | refine stp ?_
            | refine ifT ?_
            | refine ifF ?_
            | (refine ifQ ?_ ?_ <;> (try (intro hn)))
            | (refine ifB ?_ ?_ <;> (intro hq; try (have hq' := hq; simp only [hqs] at hq'))))
        exact rt1 rfl rfl finS_p rfl
      · have hd : decide (turn < 0) = false := decide_eq_false ht0
        by_cases ht1 : 15 < turn
        · have hd1 : decide (15 < turn) = true := decide_eq_true ht1
          repeat' (first
              | refine rnB ?_
              | refine rnSB ?_
              | refine rnG ?_
              | refine rnU ?_
              | ((fail_if_success (refine rnKn ?_)); refine rnP ?_ ?_ <;> (intro hq; try (have hq' := hq; simp only [hqs] at hq')))
              | refine rkB ?_
              | refine rkSB ?_
              | refine rkF ?_
              | refine rkU ?_
              | ((fail_if_success (refine rkKn ?_)); refine rkP ?_ ?_ <;> (intro hq; try (have hq' := hq; simp only [hqs] at hq')))
              | refine stp ?_
              | refine ifT ?_
              | refine ifF ?_
              | (refine ifQ ?_ ?_ <;> (try (intro hn)))
              | (refine ifB ?_ ?_ <;> (intro hq; try (have hq' := hq; simp only [hqs] at hq'))))
          exact rt1 rfl rfl finS_p rfl
        · have hd1 : decide (15 < turn) = false := decide_eq_false ht1
          have hf := greatF_few hl hg
          have hf' := greatF_few hm hg'
          obtain ⟨T, hT⟩ : ∃ T, T = ofF ls := ⟨_, rfl⟩
          obtain ⟨U0, hU0⟩ : ∃ U0, U0 = ofF ms := ⟨_, rfl⟩
          have lT : T.length = 672 := by rw [hT]; exact ofF_len _
          have rT : rightF T = true := by rw [hT]; exact of_right _
          have wT : ∀ i, i < 16 → row T (5 + i) = leafD (ls.getD i default) := fun i hi => by rw [hT]; exact of_row ls hi
          have lU0 : U0.length = 672 := by rw [hU0]; exact ofF_len _
          have rU0 : rightF U0 = true := by rw [hU0]; exact of_right _
          haveI j1 : PC Try.prog 50 [txs ls] True (tv T) := ⟨fun _ => by rw [hT]; exact of_c ls hf⟩
          haveI j2 : PC Try.prog 50 [txs ms] True (tv U0) := ⟨fun _ => by rw [hU0]; exact of_c ms hf'⟩
          clear hT hU0
          repeat' (first
              | refine rnB ?_
              | refine rnSB ?_
              | refine rnG ?_
              | refine rnU ?_
              | ((fail_if_success (refine rnKn ?_)); refine rnP ?_ ?_ <;> (intro hq; try (have hq' := hq; simp only [hqs] at hq')))
              | refine rkB ?_
              | refine rkSB ?_
              | refine rkF ?_
              | refine rkU ?_
              | ((fail_if_success (refine rkKn ?_)); refine rkP ?_ ?_ <;> (intro hq; try (have hq' := hq; simp only [hqs] at hq')))
              | refine stp ?_
              | refine ifT ?_
              | refine ifF ?_
              | (refine ifQ ?_ ?_ <;> (try (intro hn)))
              | (refine ifB ?_ ?_ <;> (intro hq; try (have hq' := hq; simp only [hqs] at hq'))))
          refine aws_draws [(4, 7), (5, 8), (6, 7), (7, 8)] mixed (by kernel_rfl) ?_
          repeat' (first
              | refine rk_nil ?_
              | refine rkB ?_
              | refine rkSB ?_
              | refine rkF ?_
              | refine rkU ?_
              | ((fail_if_success (refine rkKn ?_)); refine rkP ?_ ?_ <;> (intro hq; try (have hq' := hq; simp only [hqs] at hq'))))
          repeat' (first
              | refine rnB ?_
              | refine rnSB ?_
              | refine rnG ?_
              | refine rnU ?_
              | ((fail_if_success (refine rnKn ?_)); refine rnP ?_ ?_ <;> (intro hq; try (have hq' := hq; simp only [hqs] at hq')))
              | refine rkB ?_
              | refine rkSB ?_
              | refine rkF ?_
              | refine rkU ?_
              | ((fail_if_success (refine rkKn ?_)); refine rkP ?_ ?_ <;> (intro hq; try (have hq' := hq; simp only [hqs] at hq')))
              | refine stp ?_
              | refine ifT ?_
              | refine ifF ?_
              | (refine ifQ ?_ ?_ <;> (try (intro hn)))
              | (refine ifB ?_ ?_ <;> (intro hq; try (have hq' := hq; simp only [hqs] at hq'))))
          refine aws_loopS [6, 9, 10, 30, 31, 32, 33, 34, 35, 36, 37, 38, 39, 40, 41, 42, 43, 44, 45, 46, 47, 48, 49, 50, 51, 52, 53, 54, 55, 56, 57] [8] (fun (x : Nat × List Nat) => [(9, .p (.i x.1))]) (fun x => [(8, (1, some (.box 68 (x.2.map bc))))])
            (fun x => x.1 ≤ 16 ∧ x.2.length = 672 ∧ rightF x.2 = true ∧ ∀ j : Nat, j < x.1 → row x.2 (5 + ((15 - (j : Int) + turn) % 16).toNat) = leafD (ls.getD ((15 - (j : Int) + turn) % 16).toNat default)) (fun x => 16 - x.1) (0, U0) ⟨Nat.zero_le _, lU0, rU0, fun j hj => absurd hj (Nat.not_lt_zero _)⟩ (by exact knA) (by exact knA) ?_
          rintro ⟨i, U⟩ β γ ⟨hi, lU, rU, hpre⟩
          simp only at hi lU rU hpre
          dsimp only
          by_cases hi16 : i < 16
          · have c1 : decide ((i : Int) < 16) = true := decide_eq_true (by omega)
            obtain ⟨k, hk⟩ : ∃ k : Nat, k = ((15 - (i : Int) + turn) % 16).toNat := ⟨_, rfl⟩
            have hk' : (15 - (i : Int) + turn) % 16 = (k : Int) := by omega
            have hk16 : k < 16 := by omega
            have hfl := few_get hf ((15 - (i : Int) + turn) % 16).toNat
            obtain ⟨V, hV⟩ : ∃ V, V = withF U ((15 - (i : Int) + turn) % 16) (ls.getD ((15 - (i : Int) + turn) % 16).toNat default) := ⟨_, rfl⟩
            have lV : V.length = 672 := by rw [hV]; exact withF_len lU
            have rV : rightF V = true := by rw [hV]; exact with_right' lU rU
            have wV : row V (5 + k) = leafD (ls.getD k default) := by rw [hV, ← hk, hk']; exact with_leaf lU (by omega)
            have sV : ∀ p, 5 ≤ p → p ≠ 5 + k → row V p = row U p := fun p h1 h2 => by rw [hV, ← hk, hk']; exact with_row lU (by omega) (by omega) h2 (by omega)
            have sT : withF T ((15 - (i : Int) + turn) % 16) (ls.getD ((15 - (i : Int) + turn) % 16).toNat default) = T := by rw [← hk, hk']; exact with_same lT rT (by omega) (wT k hk16)
            haveI j3 : PC Try.prog 53 [tv U, .p (.i ((15 - (i : Int) + turn) % 16)), bytesN (ls.getD ((15 - (i : Int) + turn) % 16).toNat default) false] True (tv V) := ⟨fun _ => by rw [hV]; exact with_c U _ _ false ⟨lU, hfl⟩⟩
            haveI j4 : PC Try.prog 53 [tv T, .p (.i ((15 - (i : Int) + turn) % 16)), bytesN (ls.getD ((15 - (i : Int) + turn) % 16).toNat default) false] True (tv T) := ⟨fun _ => by
              have := with_c T ((15 - (i : Int) + turn) % 16) (ls.getD ((15 - (i : Int) + turn) % 16).toNat default) false ⟨lT, hfl⟩
              rwa [sT] at this⟩
            have e1 : (!decide (T = T)) = false := by simp
            have e2 : (!rightF V) = false := by rw [rV]; rfl
            clear hV
            repeat' (first
                | refine rnB ?_
                | refine rnSB ?_
                | refine rnG ?_
                | refine rnU ?_
                | ((fail_if_success (refine rnKn ?_)); refine rnP ?_ ?_ <;> (intro hq; try (have hq' := hq; simp only [hqs] at hq')))
                | refine rkB ?_
                | refine rkSB ?_
                | refine rkF ?_
                | refine rkU ?_
                | ((fail_if_success (refine rkKn ?_)); refine rkP ?_ ?_ <;> (intro hq; try (have hq' := hq; simp only [hqs] at hq')))
                | refine stp ?_
                | refine ifT ?_
                | refine ifF ?_
                | (refine ifQ ?_ ?_ <;> (try (intro hn)))
                | (refine ifB ?_ ?_ <;> (intro hq; try (have hq' := hq; simp only [hqs] at hq'))))
            refine aws_draws [(6, 8)] mixed (by kernel_rfl) ?_
            repeat' (first
                | refine rk_nil ?_
                | refine rkB ?_
                | refine rkSB ?_
                | refine rkF ?_
                | refine rkU ?_
                | ((fail_if_success (refine rkKn ?_)); refine rkP ?_ ?_ <;> (intro hq; try (have hq' := hq; simp only [hqs] at hq'))))
            repeat' (first
                | refine rnB ?_
                | refine rnSB ?_
                | refine rnG ?_
                | refine rnU ?_
                | ((fail_if_success (refine rnKn ?_)); refine rnP ?_ ?_ <;> (intro hq; try (have hq' := hq; simp only [hqs] at hq')))
                | refine rkB ?_
                | refine rkSB ?_
                | refine rkF ?_
                | refine rkU ?_
                | ((fail_if_success (refine rkKn ?_)); refine rkP ?_ ?_ <;> (intro hq; try (have hq' := hq; simp only [hqs] at hq')))
                | refine stp ?_
                | refine ifT ?_
                | refine ifF ?_
                | (refine ifQ ?_ ?_ <;> (try (intro hn)))
                | (refine ifB ?_ ?_ <;> (intro hq; try (have hq' := hq; simp only [hqs] at hq'))))
            refine aws_draws [] mixed (by kernel_rfl) ?_
            repeat' (first
                | refine rk_nil ?_
                | refine rkB ?_
                | refine rkSB ?_
                | refine rkF ?_
                | refine rkU ?_
                | ((fail_if_success (refine rkKn ?_)); refine rkP ?_ ?_ <;> (intro hq; try (have hq' := hq; simp only [hqs] at hq'))))
            repeat' (first
                | refine rnB ?_
                | refine rnSB ?_
                | refine rnG ?_
                | refine rnU ?_
                | ((fail_if_success (refine rnKn ?_)); refine rnP ?_ ?_ <;> (intro hq; try (have hq' := hq; simp only [hqs] at hq')))
                | refine rkB ?_
                | refine rkSB ?_
                | refine rkF ?_
                | refine rkU ?_
                | ((fail_if_success (refine rkKn ?_)); refine rkP ?_ ?_ <;> (intro hq; try (have hq' := hq; simp only [hqs] at hq')))
                | refine stp ?_
                | refine ifT ?_
                | refine ifF ?_
                | (refine ifQ ?_ ?_ <;> (try (intro hn)))
                | (refine ifB ?_ ?_ <;> (intro hq; try (have hq' := hq; simp only [hqs] at hq'))))
            refine ⟨(i + 1, V), _, by dsimp only; omega, ⟨by dsimp only; omega, lV, rV, fun j hj => ?_⟩, .refl, by exact frA⟩
            dsimp only at hj ⊢
            by_cases hji : j = i
            · subst hji; rw [← hk]; exact wV
            · rw [sV _ (by omega) (by omega)]; exact hpre j (by omega)
          · have c1 : decide ((i : Int) < 16) = false := decide_eq_false (by omega)
            have hUT : U = T := right_unique lU lT rU rT fun q hq => by
              rw [wT q hq]
              have := hpre ((15 - (q : Int) + turn) % 16).toNat (by omega)
              have e : ((15 - (((15 - (q : Int) + turn) % 16).toNat : Int) + turn) % 16).toNat = q := by omega
              rwa [e] at this
            have e3 : decide (U = T) = true := decide_eq_true hUT
            repeat' (first
                | refine rnB ?_
                | refine rnSB ?_
                | refine rnG ?_
                | refine rnU ?_
                | ((fail_if_success (refine rnKn ?_)); refine rnP ?_ ?_ <;> (intro hq; try (have hq' := hq; simp only [hqs] at hq')))
                | refine rkB ?_
                | refine rkSB ?_
                | refine rkF ?_
                | refine rkU ?_
                | ((fail_if_success (refine rkKn ?_)); refine rkP ?_ ?_ <;> (intro hq; try (have hq' := hq; simp only [hqs] at hq')))
                | refine stp ?_
                | refine ifT ?_
                | refine ifF ?_
                | (refine ifQ ?_ ?_ <;> (try (intro hn)))
                | (refine ifB ?_ ?_ <;> (intro hq; try (have hq' := hq; simp only [hqs] at hq'))))
            exact rt1 rfl rfl finS_p (rb e3.symm)
end Go.Proofs.Ytbhcdkhejgkhaaa.Tr
