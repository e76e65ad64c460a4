/- trees, the laws: what another text turns -/
import Derived.Test.YtbhcdkhejgkhaaaTrH
import Derived.Test.YtbhcdkhejgkhaaaTrB
import Derived.Test.YtbhcdkhejgkhaaaTrC
import Derived.Test.YtbhcdkhejgkhaaaTrG
namespace Go.Proofs.Ytbhcdkhejgkhaaa.Tr
open Go Go.RowKit Go.Aw Go.Aw.Sha Go.Aw.Tree Go.Proofs.Ytbhcdkhejgkhaaa.Sh
set_option linter.unusedVariables false
set_option linter.unusedSimpArgs false
set_option maxRecDepth 8000
set_option maxHeartbeats 4000000
attribute [local irreducible] sum

theorem turns_c (ls : List (List Nat)) (leaf : Int) (b : List Nat) (hl : ls.length = 16) (hb : b.length ≤ 9223372036854775807) : PCall Try.prog 14 [txs ls, .p (.i leaf), bytesN b false] (.p (.b true)) := by
  refine pcall_of Try.func14 rfl (fun w0 F S0 M0 => ?_)
  cases hg : greatF ls with
  | true =>
    repeat' (first
        | refine rnB ?_
        | refine rnSB ?_
        | refine rnG ?_
        | refine rnU ?_
        | ((fail_if_success (refine rnKn ?_)); refine rnP ?_ ?_ <;> (intro hq; try (have hq' := hq; simp only [hqs] at hq')))
        | refine rkB ?_
        | refine rkSB ?_
        | refine rkF ?_
        | refine rkU ?_
        | ((fail_if_success (refine rkKn ?_)); refine rkP ?_ ?_ <;> (intro hq; try (have hq' := hq; simp only [hqs] at hq')))
        | refine stp ?_
        | refine ifT ?_
        | refine ifF ?_
        | (refine ifQ ?_ ?_ <;> (try (intro hn)))
        | (refine ifB ?_ ?_ <;> (intro hq; try (have hq' := hq; simp only [hqs] at hq'))))
    exact rt1 rfl rfl finS_p rfl
  | false =>
    by_cases h3 : 300 < b.length
    · have hd : decide (300 < (b.length : Int)) = true := decide_eq_true (by omega)
      repeat' (first
          | refine rnB ?_
          | refine rnSB ?_
          | refine rnG ?_
          | refine rnU ?_
          | ((fail_if_success (refine rnKn ?_)); refine rnP ?_ ?_ <;> (intro hq; try (have hq' := hq; simp only [hqs] at hq')))
          | refine rkB ?_
          | refine rkSB ?_
          | refine rkF ?_
          | refine rkU ?_
          | ((fail_if_success (refine rkKn ?_)); refine rkP ?_ ?_ <;> (intro hq; try (have hq' := hq; simp only [hqs] at hq')))
          | refine stp ?_
          | refine ifT ?_
          | refine ifF ?_
          | (refine ifQ ?_ ?_ <;> (try (intro hn)))
          | (refine ifB ?_ ?_ <;> (intro hq; try (have hq' := hq; simp only [hqs] at hq'))))
      exact rt1 rfl rfl finS_p rfl
    · have hd : decide (300 < (b.length : Int)) = false := decide_eq_false (by omega)
      have hf := greatF_few hl hg
      obtain ⟨T, hT⟩ : ∃ T, T = ofF ls := ⟨_, rfl⟩
      have lT : T.length = 672 := by rw [hT]; exact ofF_len _
      have rT : rightF T = true := by rw [hT]; exact of_right _
      haveI j1 : PC Try.prog 50 [txs ls] True (tv T) := ⟨fun _ => by rw [hT]; exact of_c ls hf⟩
      obtain ⟨W, hW⟩ : ∃ W, W = withF T leaf b := ⟨_, rfl⟩
      have lW : W.length = 672 := by rw [hW]; exact withF_len lT
      have rW : rightF W = true := by rw [hW]; exact with_right' lT rT
      haveI j3 : PC Try.prog 53 [tv T, .p (.i leaf), bytesN b false] True (tv W) := ⟨fun _ => by rw [hW]; exact with_c T leaf b false ⟨lT, by omega⟩⟩
      have hsame : ∀ p : Nat, ¬ (0 ≤ leaf ∧ leaf ≤ 15 ∧ ((p : Int) = 0 ∨ (p : Int) = 5 + leaf ∨ (p : Int) = upF (5 + leaf))) → row T p = row W p := fun p hp => by
        by_cases hn : 0 ≤ leaf ∧ leaf ≤ 15
        · obtain ⟨n, rfl⟩ : ∃ n : Nat, leaf = n := ⟨leaf.toNat, by omega⟩
          have hu : upF (5 + (n : Int)) = (4 + (n : Int)) / 4 := by unfold upF; rw [if_pos (by omega)]; omega
          rw [hu] at hp
          rw [hW]; exact (with_row lT (by omega) (by omega) (by omega) (by omega)).symm
        · rw [hW, with_out hn]
      clear hT hW
      repeat' (first
          | refine rnB ?_
          | refine rnSB ?_
          | refine rnG ?_
          | refine rnU ?_
          | ((fail_if_success (refine rnKn ?_)); refine rnP ?_ ?_ <;> (intro hq; try (have hq' := hq; simp only [hqs] at hq')))
          | refine rkB ?_
          | refine rkSB ?_
          | refine rkF ?_
          | refine rkU ?_
          | ((fail_if_success (refine rkKn ?_)); refine rkP ?_ ?_ <;> (intro hq; try (have hq' := hq; simp only [hqs] at hq')))
          | refine stp ?_
          | refine ifT ?_
          | refine ifF ?_
          | (refine ifQ ?_ ?_ <;> (try (intro hn)))
          | (refine ifB ?_ ?_ <;> (intro hq; try (have hq' := hq; simp only [hqs] at hq'))))
      refine aws_loopS [6, 9, 10, 25, 26, 27, 28, 29, 30, 31, 32, 33, 34, 35, 36, 37, 38, 39, 40, 41, 42, 43, 44, 45, 46, 47, 48, 49, 50, 51, 52, 53, 54, 55, 56, 57, 58, 59, 60, 61, 62] [] (fun (p : Nat) => [(9, .p (.i p))]) (fun _ => []) (fun p => p ≤ 21) (fun p => 21 - p) 0 (Nat.zero_le _) (by exact knA) (by exact knA) ?_
      rintro p β γ hp
      by_cases hp21 : p < 21
      · have c0 : decide ((p : Int) < 21) = true := decide_eq_true (by omega)
        have lr1 : (rowOf 32 T (p : Int).toNat).length = 32 := row_len lT (by omega)
        have lr2 : (rowOf 32 W (p : Int).toNat).length = 32 := row_len lW (by omega)
        by_cases hn : 0 ≤ leaf ∧ leaf ≤ 15
        · have c1 : decide (0 ≤ leaf) = true := decide_eq_true hn.1
          have c2 : decide (leaf ≤ 15) = true := decide_eq_true hn.2
          by_cases h0 : (p : Int) = 0
          · have c3 : decide ((p : Int) = 0) = true := decide_eq_true h0
            have c9 : (!decide ((p : Int) = 0)) = false := by rw [c3]; rfl
            repeat' (first
                | refine rnB ?_
                | refine rnSB ?_
                | refine rnG ?_
                | refine rnU ?_
                | ((fail_if_success (refine rnKn ?_)); refine rnP ?_ ?_ <;> (intro hq; try (have hq' := hq; simp only [hqs] at hq')))
                | refine rkB ?_
                | refine rkSB ?_
                | refine rkF ?_
                | refine rkU ?_
                | ((fail_if_success (refine rkKn ?_)); refine rkP ?_ ?_ <;> (intro hq; try (have hq' := hq; simp only [hqs] at hq')))
                | refine stp ?_
                | refine ifT ?_
                | refine ifF ?_
                | (refine ifQ ?_ ?_ <;> (try (intro hn)))
                | (refine ifB ?_ ?_ <;> (intro hq; try (have hq' := hq; simp only [hqs] at hq'))))
            refine aws_draws [] mixed (by kernel_rfl) ?_
            repeat' (first
                | refine rk_nil ?_
                | refine rkB ?_
                | refine rkSB ?_
                | refine rkF ?_
                | refine rkU ?_
                | ((fail_if_success (refine rkKn ?_)); refine rkP ?_ ?_ <;> (intro hq; try (have hq' := hq; simp only [hqs] at hq'))))
            repeat' (first
                | refine rnB ?_
                | refine rnSB ?_
                | refine rnG ?_
                | refine rnU ?_
                | ((fail_if_success (refine rnKn ?_)); refine rnP ?_ ?_ <;> (intro hq; try (have hq' := hq; simp only [hqs] at hq')))
                | refine rkB ?_
                | refine rkSB ?_
                | refine rkF ?_
                | refine rkU ?_
                | ((fail_if_success (refine rkKn ?_)); refine rkP ?_ ?_ <;> (intro hq; try (have hq' := hq; simp only [hqs] at hq')))
                | refine stp ?_
                | refine ifT ?_
                | refine ifF ?_
                | (refine ifQ ?_ ?_ <;> (try (intro hn)))
                | (refine ifB ?_ ?_ <;> (intro hq; try (have hq' := hq; simp only [hqs] at hq'))))
            exact ⟨p + 1, _, by omega, by omega, .refl, by exact frA⟩
          · have c3 : decide ((p : Int) = 0) = false := decide_eq_false h0
            by_cases h5 : (p : Int) = 5 + leaf
            · have c4 : decide ((p : Int) = 5 + leaf) = true := decide_eq_true h5
              have c9 : (!decide ((p : Int) = 5 + leaf)) = false := by rw [c4]; rfl
              repeat' (first
                  | refine rnB ?_
                  | refine rnSB ?_
                  | refine rnG ?_
                  | refine rnU ?_
                  | ((fail_if_success (refine rnKn ?_)); refine rnP ?_ ?_ <;> (intro hq; try (have hq' := hq; simp only [hqs] at hq')))
                  | refine rkB ?_
                  | refine rkSB ?_
                  | refine rkF ?_
                  | refine rkU ?_
                  | ((fail_if_success (refine rkKn ?_)); refine rkP ?_ ?_ <;> (intro hq; try (have hq' := hq; simp only [hqs] at hq')))
                  | refine stp ?_
                  | refine ifT ?_
                  | refine ifF ?_
                  | (refine ifQ ?_ ?_ <;> (try (intro hn)))
                  | (refine ifB ?_ ?_ <;> (intro hq; try (have hq' := hq; simp only [hqs] at hq'))))
              refine aws_draws [] mixed (by kernel_rfl) ?_
              repeat' (first
                  | refine rk_nil ?_
                  | refine rkB ?_
                  | refine rkSB ?_
                  | refine rkF ?_
                  | refine rkU ?_
                  | ((fail_if_success (refine rkKn ?_)); refine rkP ?_ ?_ <;> (intro hq; try (have hq' := hq; simp only [hqs] at hq'))))
              repeat' (first
                  | refine rnB ?_
                  | refine rnSB ?_
                  | refine rnG ?_
                  | refine rnU ?_
                  | ((fail_if_success (refine rnKn ?_)); refine rnP ?_ ?_ <;> (intro hq; try (have hq' := hq; simp only [hqs] at hq')))
                  | refine rkB ?_
                  | refine rkSB ?_
                  | refine rkF ?_
                  | refine rkU ?_
                  | ((fail_if_success (refine rkKn ?_)); refine rkP ?_ ?_ <;> (intro hq; try (have hq' := hq; simp only [hqs] at hq')))
                  | refine stp ?_
                  | refine ifT ?_
                  | refine ifF ?_
                  | (refine ifQ ?_ ?_ <;> (try (intro hn)))
                  | (refine ifB ?_ ?_ <;> (intro hq; try (have hq' := hq; simp only [hqs] at hq'))))
              exact ⟨p + 1, _, by omega, by omega, .refl, by exact frA⟩
            · have c4 : decide ((p : Int) = 5 + leaf) = false := decide_eq_false h5
              by_cases hu : (p : Int) = upF (5 + leaf)
              · have c5 : decide ((p : Int) = upF (5 + leaf)) = true := decide_eq_true hu
                have c9 : (!decide ((p : Int) = upF (5 + leaf))) = false := by rw [c5]; rfl
                repeat' (first
                    | refine rnB ?_
                    | refine rnSB ?_
                    | refine rnG ?_
                    | refine rnU ?_
                    | ((fail_if_success (refine rnKn ?_)); refine rnP ?_ ?_ <;> (intro hq; try (have hq' := hq; simp only [hqs] at hq')))
                    | refine rkB ?_
                    | refine rkSB ?_
                    | refine rkF ?_
                    | refine rkU ?_
                    | ((fail_if_success (refine rkKn ?_)); refine rkP ?_ ?_ <;> (intro hq; try (have hq' := hq; simp only [hqs] at hq')))
                    | refine stp ?_
                    | refine ifT ?_
                    | refine ifF ?_
                    | (refine ifQ ?_ ?_ <;> (try (intro hn)))
                    | (refine ifB ?_ ?_ <;> (intro hq; try (have hq' := hq; simp only [hqs] at hq'))))
                refine aws_draws [] mixed (by kernel_rfl) ?_
                repeat' (first
                    | refine rk_nil ?_
                    | refine rkB ?_
                    | refine rkSB ?_
                    | refine rkF ?_
                    | refine rkU ?_
                    | ((fail_if_success (refine rkKn ?_)); refine rkP ?_ ?_ <;> (intro hq; try (have hq' := hq; simp only [hqs] at hq'))))
                repeat' (first
                    | refine rnB ?_
                    | refine rnSB ?_
                    | refine rnG ?_
                    | refine rnU ?_
                    | ((fail_if_success (refine rnKn ?_)); refine rnP ?_ ?_ <;> (intro hq; try (have hq' := hq; simp only [hqs] at hq')))
                    | refine rkB ?_
                    | refine rkSB ?_
                    | refine rkF ?_
                    | refine rkU ?_
                    | ((fail_if_success (refine rkKn ?_)); refine rkP ?_ ?_ <;> (intro hq; try (have hq' := hq; simp only [hqs] at hq')))
                    | refine stp ?_
                    | refine ifT ?_
                    | refine ifF ?_
                    | (refine ifQ ?_ ?_ <;> (try (intro hn)))
                    | (refine ifB ?_ ?_ <;> (intro hq; try (have hq' := hq; simp only [hqs] at hq'))))
                exact ⟨p + 1, _, by omega, by omega, .refl, by exact frA⟩
              · have c5 : decide ((p : Int) = upF (5 + leaf)) = false := decide_eq_false hu
                have c9 : (!decide ((p : Int) = upF (5 + leaf))) = true := by rw [c5]; rfl
                have c6 : (!decide (rowOf 32 T (p : Int).toNat = rowOf 32 W (p : Int).toNat)) = false := by
                  have : decide (rowOf 32 T (p : Int).toNat = rowOf 32 W (p : Int).toNat) = true := decide_eq_true (by rw [Int.toNat_natCast]; exact hsame p (by omega))
                  rw [this]; rfl
                repeat' (first
                    | refine rnB ?_
                    | refine rnSB ?_
                    | refine rnG ?_
                    | refine rnU ?_
                    | ((fail_if_success (refine rnKn ?_)); refine rnP ?_ ?_ <;> (intro hq; try (have hq' := hq; simp only [hqs] at hq')))
                    | refine rkB ?_
                    | refine rkSB ?_
                    | refine rkF ?_
                    | refine rkU ?_
                    | ((fail_if_success (refine rkKn ?_)); refine rkP ?_ ?_ <;> (intro hq; try (have hq' := hq; simp only [hqs] at hq')))
                    | refine stp ?_
                    | refine ifT ?_
                    | refine ifF ?_
                    | (refine ifQ ?_ ?_ <;> (try (intro hn)))
                    | (refine ifB ?_ ?_ <;> (intro hq; try (have hq' := hq; simp only [hqs] at hq'))))
                refine aws_draws [] mixed (by kernel_rfl) ?_
                repeat' (first
                    | refine rk_nil ?_
                    | refine rkB ?_
                    | refine rkSB ?_
                    | refine rkF ?_
                    | refine rkU ?_
                    | ((fail_if_success (refine rkKn ?_)); refine rkP ?_ ?_ <;> (intro hq; try (have hq' := hq; simp only [hqs] at hq'))))
                repeat' (first
                    | refine rnB ?_
                    | refine rnSB ?_
                    | refine rnG ?_
                    | refine rnU ?_
                    | ((fail_if_success (refine rnKn ?_)); refine rnP ?_ ?_ <;> (intro hq; try (have hq' := hq; simp only [hqs] at hq')))
                    | refine rkB ?_
                    | refine rkSB ?_
                    | refine rkF ?_
                    | refine rkU ?_
                    | ((fail_if_success (refine rkKn ?_)); refine rkP ?_ ?_ <;> (intro hq; try (have hq' := hq; simp only [hqs] at hq')))
                    | refine stp ?_
                    | refine ifT ?_
                    | refine ifF ?_
                    | (refine ifQ ?_ ?_ <;> (try (intro hn)))
                    | (refine ifB ?_ ?_ <;> (intro hq; try (have hq' := hq; simp only [hqs] at hq'))))
                exact ⟨p + 1, _, by omega, by omega, .refl, by exact frA⟩
        · have c6 : (!decide (rowOf 32 T (p : Int).toNat = rowOf 32 W (p : Int).toNat)) = false := by
            have : decide (rowOf 32 T (p : Int).toNat = rowOf 32 W (p : Int).toNat) = true := decide_eq_true (by rw [Int.toNat_natCast]; exact hsame p (by omega))
            rw [this]; rfl
          by_cases hn0 : leaf < 0
          · have c1 : decide (0 ≤ leaf) = false := decide_eq_false (by omega)
            have c8 : (!decide (0 ≤ leaf)) = true := by rw [c1]; rfl
            repeat' (first
                | refine rnB ?_
                | refine rnSB ?_
                | refine rnG ?_
                | refine rnU ?_
                | ((fail_if_success (refine rnKn ?_)); refine rnP ?_ ?_ <;> (intro hq; try (have hq' := hq; simp only [hqs] at hq')))
                | refine rkB ?_
                | refine rkSB ?_
                | refine rkF ?_
                | refine rkU ?_
                | ((fail_if_success (refine rkKn ?_)); refine rkP ?_ ?_ <;> (intro hq; try (have hq' := hq; simp only [hqs] at hq')))
                | refine stp ?_
                | refine ifT ?_
                | refine ifF ?_
                | (refine ifQ ?_ ?_ <;> (try (intro hn)))
                | (refine ifB ?_ ?_ <;> (intro hq; try (have hq' := hq; simp only [hqs] at hq'))))
            refine aws_draws [] mixed (by kernel_rfl) ?_
            repeat' (first
                | refine rk_nil ?_
                | refine rkB ?_
                | refine rkSB ?_
                | refine rkF ?_
                | refine rkU ?_
                | ((fail_if_success (refine rkKn ?_)); refine rkP ?_ ?_ <;> (intro hq; try (have hq' := hq; simp only [hqs] at hq'))))
            repeat' (first
                | refine rnB ?_
                | refine rnSB ?_
                | refine rnG ?_
                | refine rnU ?_
                | ((fail_if_success (refine rnKn ?_)); refine rnP ?_ ?_ <;> (intro hq; try (have hq' := hq; simp only [hqs] at hq')))
                | refine rkB ?_
                | refine rkSB ?_
                | refine rkF ?_
                | refine rkU ?_
                | ((fail_if_success (refine rkKn ?_)); refine rkP ?_ ?_ <;> (intro hq; try (have hq' := hq; simp only [hqs] at hq')))
                | refine stp ?_
                | refine ifT ?_
                | refine ifF ?_
                | (refine ifQ ?_ ?_ <;> (try (intro hn)))
                | (refine ifB ?_ ?_ <;> (intro hq; try (have hq' := hq; simp only [hqs] at hq'))))
            exact ⟨p + 1, _, by omega, by omega, .refl, by exact frA⟩
          · have c1 : decide (0 ≤ leaf) = true := decide_eq_true (by omega)
            have c2 : decide (leaf ≤ 15) = false := decide_eq_false (by omega)
            have c8 : (!decide (leaf ≤ 15)) = true := by rw [c2]; rfl
            repeat' (first
                | refine rnB ?_
                | refine rnSB ?_
                | refine rnG ?_
                | refine rnU ?_
                | ((fail_if_success (refine rnKn ?_)); refine rnP ?_ ?_ <;> (intro hq; try (have hq' := hq; simp only [hqs] at hq')))
                | refine rkB ?_
                | refine rkSB ?_
                | refine rkF ?_
                | refine rkU ?_
                | ((fail_if_success (refine rkKn ?_)); refine rkP ?_ ?_ <;> (intro hq; try (have hq' := hq; simp only [hqs] at hq')))
                | refine stp ?_
                | refine ifT ?_
                | refine ifF ?_
                | (refine ifQ ?_ ?_ <;> (try (intro hn)))
                | (refine ifB ?_ ?_ <;> (intro hq; try (have hq' := hq; simp only [hqs] at hq'))))
            refine aws_draws [] mixed (by kernel_rfl) ?_
            repeat' (first
                | refine rk_nil ?_
                | refine rkB ?_
                | refine rkSB ?_
                | refine rkF ?_
                | refine rkU ?_
                | ((fail_if_success (refine rkKn ?_)); refine rkP ?_ ?_ <;> (intro hq; try (have hq' := hq; simp only [hqs] at hq'))))
            repeat' (first
                | refine rnB ?_
                | refine rnSB ?_
                | refine rnG ?_
                | refine rnU ?_
                | ((fail_if_success (refine rnKn ?_)); refine rnP ?_ ?_ <;> (intro hq; try (have hq' := hq; simp only [hqs] at hq')))
                | refine rkB ?_
                | refine rkSB ?_
                | refine rkF ?_
                | refine rkU ?_
                | ((fail_if_success (refine rkKn ?_)); refine rkP ?_ ?_ <;> (intro hq; try (have hq' := hq; simp only [hqs] at hq')))
                | refine stp ?_
                | refine ifT ?_
                | refine ifF ?_
                | (refine ifQ ?_ ?_ <;> (try (intro hn)))
                | (refine ifB ?_ ?_ <;> (intro hq; try (have hq' := hq; simp only [hqs] at hq'))))
            exact ⟨p + 1, _, by omega, by omega, .refl, by exact frA⟩
      · have c0 : decide ((p : Int) < 21) = false := decide_eq_false (by omega)
        repeat' (first
            | refine rnB ?_
            | refine rnSB ?_
            | refine rnG ?_
            | refine rnU ?_
            | ((fail_if_success (refine rnKn ?_)); refine rnP ?_ ?_ <;> (intro hq; try (have hq' := hq; simp only [hqs] at hq')))
            | refine rkB ?_
            | refine rkSB ?_
            | refine rkF ?_
            | refine rkU ?_
            | ((fail_if_success (refine rkKn ?_)); refine rkP ?_ ?_ <;> (intro hq; try (have hq' := hq; simp only [hqs] at hq')))
            | refine stp ?_
            | refine ifT ?_
            | refine ifF ?_
            | (refine ifQ ?_ ?_ <;> (try (intro hn)))
            | (refine ifB ?_ ?_ <;> (intro hq; try (have hq' := hq; simp only [hqs] at hq'))))
        exact rt1 rfl rfl finS_p (rb rW.symm)
end Go.Proofs.Ytbhcdkhejgkhaaa.Tr
