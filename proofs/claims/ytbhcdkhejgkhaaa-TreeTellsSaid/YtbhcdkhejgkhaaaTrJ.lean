/- trees, the laws: trees of texts -/
import Derived.Test.YtbhcdkhejgkhaaaTrH
import Derived.Test.YtbhcdkhejgkhaaaTrB
import Derived.Test.YtbhcdkhejgkhaaaTrG
namespace Go.Proofs.Ytbhcdkhejgkhaaa.Tr
open Go Go.RowKit Go.Aw Go.Aw.Sha Go.Aw.Tree Go.Proofs.Ytbhcdkhejgkhaaa.Sh
set_option linter.unusedVariables false
set_option linter.unusedSimpArgs false
set_option maxRecDepth 8000
set_option maxHeartbeats 4000000
attribute [local irreducible] sum

theorem tells_c (ls : List (List Nat)) (leaf : Int) (b : List Nat) (place : Int) (hl : ls.length = 16) (ho : okT ls) (hb : b.length ≤ 9223372036854775807) (hbo : okB b) : PCall Try.prog 11 [txs ls, .p (.i leaf), bytesN b false, .p (.i place)] (.p (.b true)) := by
  refine pcall_of Try.func11 rfl (fun w0 F S0 M0 => ?_)
  cases hg : greatF ls with
  | true =>
    repeat' (first
        | refine rnB ?_
        | refine rnSB ?_
        | refine rnG ?_
        | refine rnU ?_
        | ((fail_if_success (refine rnKn ?_)); refine rnP ?_ ?_ <;> (intro hq; try (have hq' := hq; simp only [hqs] at hq')))
        | refine rkB ?_
        | refine rkSB ?_
        | refine rkF ?_
        | refine rkU ?_
        | ((fail_if_success (refine rkKn ?_)); refine rkP ?_ ?_ <;> (intro hq; try (have hq' := hq; simp only [hqs] at hq')))
        | refine stp ?_
        | refine ifT ?_
        | refine ifF ?_
        | (refine ifQ ?_ ?_ <;> (try (intro hn)))
        | (refine ifB ?_ ?_ <;> (intro hq; try (have hq' := hq; simp only [hqs] at hq'))))
    exact rt1 rfl rfl finS_p rfl
  | false =>
    by_cases h3 : 300 < b.length
    · have hd : decide (300 < (b.length : Int)) = true := decide_eq_true (by omega)
      repeat' (first
          | refine rnB ?_
          | refine rnSB ?_
          | refine rnG ?_
          | refine rnU ?_
          | ((fail_if_success (refine rnKn ?_)); refine rnP ?_ ?_ <;> (intro hq; try (have hq' := hq; simp only [hqs] at hq')))
          | refine rkB ?_
          | refine rkSB ?_
          | refine rkF ?_
          | refine rkU ?_
          | ((fail_if_success (refine rkKn ?_)); refine rkP ?_ ?_ <;> (intro hq; try (have hq' := hq; simp only [hqs] at hq')))
          | refine stp ?_
          | refine ifT ?_
          | refine ifF ?_
          | (refine ifQ ?_ ?_ <;> (try (intro hn)))
          | (refine ifB ?_ ?_ <;> (intro hq; try (have hq' := hq; simp only [hqs] at hq'))))
      exact rt1 rfl rfl finS_p rfl
    · have hd : decide (300 < (b.length : Int)) = false := decide_eq_false (by omega)
      have hf := greatF_few hl hg
      obtain ⟨T, hT⟩ : ∃ T, T = ofF ls := ⟨_, rfl⟩
      have lT : T.length = 672 := by rw [hT]; exact ofF_len _
      have oT : okB T := by rw [hT]; exact okB_inner (okB_leaves ls 16) 5
      haveI j1 : PC Try.prog 50 [txs ls] True (tv T) := ⟨fun _ => by rw [hT]; exact of_c ls hf⟩
      haveI j2 : PC Try.prog 51 [strs ls] True (tv T) := ⟨fun _ => by rw [hT]; exact rof_c ls hf ho⟩
      obtain ⟨W, hW⟩ : ∃ W, W = withF T leaf b := ⟨_, rfl⟩
      have lW : W.length = 672 := by rw [hW]; exact withF_len lT
      haveI j3 : PC Try.prog 53 [tv T, .p (.i leaf), bytesN b false] True (tv W) := ⟨fun _ => by rw [hW]; exact with_c T leaf b false ⟨lT, by omega⟩⟩
      haveI j4 : PC Try.prog 54 [tv T, .p (.i leaf), .p (.v (.string (strOf b)))] True (tv W) := ⟨fun _ => by rw [hW]; exact rwith_c T leaf b lT (by omega) oT hbo⟩
      obtain ⟨B, hB⟩ : ∃ B, B = belowF T place := ⟨_, rfl⟩
      have oB : okB B := by rw [hB]; exact okB_below oT place
      haveI j5 : PC Try.prog 55 [tv T, .p (.i place)] True (bytesN B false) := ⟨fun _ => by rw [hB]; exact below_c T place lT⟩
      haveI j6 : PC Try.prog 56 [tv T, .p (.i place)] True (bytesN B false) := ⟨fun _ => by rw [hB]; exact rbelow_c T place lT⟩
      have e1 : decide (T = T) = true := decide_eq_true rfl
      have e2 : decide (W = W) = true := decide_eq_true rfl
      have e3 : decide (B = B) = true := decide_eq_true rfl
      clear hT hW hB
      repeat' (first
          | refine rnB ?_
          | refine rnSB ?_
          | refine rnG ?_
          | refine rnU ?_
          | ((fail_if_success (refine rnKn ?_)); refine rnP ?_ ?_ <;> (intro hq; try (have hq' := hq; simp only [hqs] at hq')))
          | refine rkB ?_
          | refine rkSB ?_
          | refine rkF ?_
          | refine rkU ?_
          | ((fail_if_success (refine rkKn ?_)); refine rkP ?_ ?_ <;> (intro hq; try (have hq' := hq; simp only [hqs] at hq')))
          | refine stp ?_
          | refine ifT ?_
          | refine ifF ?_
          | (refine ifQ ?_ ?_ <;> (try (intro hn)))
          | (refine ifB ?_ ?_ <;> (intro hq; try (have hq' := hq; simp only [hqs] at hq'))))
      refine aws_draws [] mixed (by kernel_rfl) ?_
      repeat' (first
          | refine rk_nil ?_
          | refine rkB ?_
          | refine rkSB ?_
          | refine rkF ?_
          | refine rkU ?_
          | ((fail_if_success (refine rkKn ?_)); refine rkP ?_ ?_ <;> (intro hq; try (have hq' := hq; simp only [hqs] at hq'))))
      repeat' (first
          | refine rnB ?_
          | refine rnSB ?_
          | refine rnG ?_
          | refine rnU ?_
          | ((fail_if_success (refine rnKn ?_)); refine rnP ?_ ?_ <;> (intro hq; try (have hq' := hq; simp only [hqs] at hq')))
          | refine rkB ?_
          | refine rkSB ?_
          | refine rkF ?_
          | refine rkU ?_
          | ((fail_if_success (refine rkKn ?_)); refine rkP ?_ ?_ <;> (intro hq; try (have hq' := hq; simp only [hqs] at hq')))
          | refine stp ?_
          | refine ifT ?_
          | refine ifF ?_
          | (refine ifQ ?_ ?_ <;> (try (intro hn)))
          | (refine ifB ?_ ?_ <;> (intro hq; try (have hq' := hq; simp only [hqs] at hq'))))
      exact rt1 rfl rfl finS_p (rb e3.symm)
end Go.Proofs.Ytbhcdkhejgkhaaa.Tr
