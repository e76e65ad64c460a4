/- clashes, the laws: ClashOr, ClashEqual -/
import Derived.Test.YtpamepepibnlfaaClK
import Derived.Test.YtpamepepibnlfaaClG
import Derived.Test.YtpamepepibnlfaaSh8
namespace Go.Proofs.Ytpamepepibnlfaa.Cl
open Go Go.RowKit Go.Aw Go.Aw.Sha Go.Aw.Tree Go.Aw.Clash Go.Proofs.Ytpamepepibnlfaa.Sh Go.Proofs.Ytpamepepibnlfaa.Tr
set_option linter.unusedVariables false
set_option linter.unusedSimpArgs false
set_option maxRecDepth 8000
attribute [local irreducible] sum
set_option maxHeartbeats 4000000
theorem or_w (ls ms : List (List Nat)) (hl16 : ls.length = 16) (hm16 : ms.length = 16) (ol : okT ls) (om : okT ms) : PCall Try.prog 4 [txs ls, txs ms] (.p (.b true)) := by
  refine pcall_of Try.func4 rfl (fun w0 F S0 M0 => ?_)
  cases hg : greatF ls with
  | true =>
    repeat' (first
        | refine rnB ?_
        | refine rnSB ?_
        | refine rnG ?_
        | refine rnU ?_
        | ((fail_if_success (refine rnKn ?_)); refine rnP ?_ ?_ <;> (intro hq; try (have hq' := hq; simp only [hqs] at hq')))
        | refine rkB ?_
        | refine rkSB ?_
        | refine rkF ?_
        | refine rkU ?_
        | ((fail_if_success (refine rkKn ?_)); refine rkP ?_ ?_ <;> (intro hq; try (have hq' := hq; simp only [hqs] at hq')))
        | refine stp ?_
        | refine aws_draws [] mixed (by kernel_rfl) ?_
        | refine ifT ?_
        | refine ifF ?_
        | (refine ifQ ?_ ?_ <;> (try (intro hn)))
        | (refine ifB ?_ ?_ <;> (intro hq; try (have hq' := hq; simp only [hqs] at hq'))))
    exact rt1 rfl rfl finS_p rfl
  | false =>
    cases hg2 : greatF ms with
    | true =>
      repeat' (first
          | refine rnB ?_
          | refine rnSB ?_
          | refine rnG ?_
          | refine rnU ?_
          | ((fail_if_success (refine rnKn ?_)); refine rnP ?_ ?_ <;> (intro hq; try (have hq' := hq; simp only [hqs] at hq')))
          | refine rkB ?_
          | refine rkSB ?_
          | refine rkF ?_
          | refine rkU ?_
          | ((fail_if_success (refine rkKn ?_)); refine rkP ?_ ?_ <;> (intro hq; try (have hq' := hq; simp only [hqs] at hq')))
          | refine stp ?_
          | refine aws_draws [] mixed (by kernel_rfl) ?_
          | refine ifT ?_
          | refine ifF ?_
          | (refine ifQ ?_ ?_ <;> (try (intro hn)))
          | (refine ifB ?_ ?_ <;> (intro hq; try (have hq' := hq; simp only [hqs] at hq'))))
      exact rt1 rfl rfl finS_p rfl
    | false =>
      have hf := greatF_few hl16 hg
      have hf2 := greatF_few hm16 hg2
      obtain ⟨b1, b2⟩ := exF_ok ol om
      obtain ⟨n1, n2⟩ := exF_len hf hf2
      have hs := ex_says ls ms
      have hx := extract_w ls ms ⟨hf, hf2, ol, om⟩
      have hex := exact_w ls ms ⟨hf, hf2, ol, om⟩
      generalize exF ls ms = x at *
      obtain ⟨p, q, is⟩ := x
      simp only at b1 b2 n1 n2 hs
      haveI : PC Try.prog 18 [txs ls, txs ms] True (.tup [.one (.p (bytesP p false)), .one (.p (bytesP q false)), .one (.p (.b is))]) := ⟨fun _ => hx⟩
      have m1 : p.length ≤ 500000000 := by omega
      have m2 : q.length ≤ 500000000 := by omega
      rcases hs with ⟨h1, _, hn⟩ | ⟨h1, h2, h3⟩
      · subst h1
        have he : decide (exTo ls ms (leavesL (walkF (ofF ls) (ofF ms)).1) 16) = true := decide_eq_true (exact_none hn)
        rw [he] at hex
        haveI : PC Try.prog 22 [txs ls, txs ms] True (.p (.b true)) := ⟨fun _ => hex⟩
        repeat' (first
            | refine rnB ?_
            | refine rnSB ?_
            | refine rnG ?_
            | refine rnU ?_
            | ((fail_if_success (refine rnKn ?_)); refine rnP ?_ ?_ <;> (intro hq; try (have hq' := hq; simp only [hqs] at hq')))
            | refine rkB ?_
            | refine rkSB ?_
            | refine rkF ?_
            | refine rkU ?_
            | ((fail_if_success (refine rkKn ?_)); refine rkP ?_ ?_ <;> (intro hq; try (have hq' := hq; simp only [hqs] at hq')))
            | refine stp ?_
            | refine aws_draws [] mixed (by kernel_rfl) ?_
            | refine ifT ?_
            | refine ifF ?_
            | (refine ifQ ?_ ?_ <;> (try (intro hn)))
            | (refine ifB ?_ ?_ <;> (intro hq; try (have hq' := hq; simp only [hqs] at hq'))))
        exact rt1 rfl rfl finS_p rfl
      · subst h1
        have e1 : (!decide (p = q)) = true := by rw [decide_eq_false h2]; rfl
        have e2 : decide (sum p = sum q) = true := decide_eq_true h3
        have l1 := sumLen p
        have l2 := sumLen q
        repeat' (first
            | refine rnB ?_
            | refine rnSB ?_
            | refine rnG ?_
            | refine rnU ?_
            | ((fail_if_success (refine rnKn ?_)); refine rnP ?_ ?_ <;> (intro hq; try (have hq' := hq; simp only [hqs] at hq')))
            | refine rkB ?_
            | refine rkSB ?_
            | refine rkF ?_
            | refine rkU ?_
            | ((fail_if_success (refine rkKn ?_)); refine rkP ?_ ?_ <;> (intro hq; try (have hq' := hq; simp only [hqs] at hq')))
            | refine stp ?_
            | refine aws_draws [] mixed (by kernel_rfl) ?_
            | refine ifT ?_
            | refine ifF ?_
            | (refine ifQ ?_ ?_ <;> (try (intro hn)))
            | (refine ifB ?_ ?_ <;> (intro hq; try (have hq' := hq; simp only [hqs] at hq'))))
        exact rt1 rfl rfl finS_p (rb e2.symm)
theorem equal_w (ls : List (List Nat)) (hl16 : ls.length = 16) (ol : okT ls) : PCall Try.prog 5 [txs ls] (.p (.b true)) := by
  refine pcall_of Try.func5 rfl (fun w0 F S0 M0 => ?_)
  cases hg : greatF ls with
  | true =>
    repeat' (first
        | refine rnB ?_
        | refine rnSB ?_
        | refine rnG ?_
        | refine rnU ?_
        | ((fail_if_success (refine rnKn ?_)); refine rnP ?_ ?_ <;> (intro hq; try (have hq' := hq; simp only [hqs] at hq')))
        | refine rkB ?_
        | refine rkSB ?_
        | refine rkF ?_
        | refine rkU ?_
        | ((fail_if_success (refine rkKn ?_)); refine rkP ?_ ?_ <;> (intro hq; try (have hq' := hq; simp only [hqs] at hq')))
        | refine stp ?_
        | refine aws_draws [] mixed (by kernel_rfl) ?_
        | refine ifT ?_
        | refine ifF ?_
        | (refine ifQ ?_ ?_ <;> (try (intro hn)))
        | (refine ifB ?_ ?_ <;> (intro hq; try (have hq' := hq; simp only [hqs] at hq'))))
    exact rt1 rfl rfl finS_p rfl
  | false =>
    have hf := greatF_few hl16 hg
    have hex := exact_w ls ls ⟨hf, hf, ol, ol⟩
    have he : decide (exTo ls ls (leavesL (walkF (ofF ls) (ofF ls)).1) 16) = true := decide_eq_true (exact_none (self_none ls))
    rw [he] at hex
    haveI : PC Try.prog 22 [txs ls, txs ls] True (.p (.b true)) := ⟨fun _ => hex⟩
    have hat := at_w ls ls ⟨hf, hf, ol, ol⟩
    rw [at_self] at hat
    haveI : PC Try.prog 21 [txs ls, txs ls] True (.p (.i (-1))) := ⟨fun _ => hat⟩
    obtain ⟨T, hT⟩ : ∃ T, T = ofF ls := ⟨_, rfl⟩
    have lT : T.length = 672 := by rw [hT]; exact ofF_len ls
    haveI : PC Try.prog 26 [txs ls] True (tv T) := ⟨fun _ => by rw [hT]; exact of_c ls hf⟩
    have hd := diff_w T T ⟨lT, lT⟩
    rw [walk_self] at hd
    haveI : PC Try.prog 25 [tv T, tv T] True (.tup [.one (.p (.sl 1 (([] : List Int).map fun n => [PVal.i n]) false)), .one (.p (.i 1))]) := ⟨fun _ => hd⟩
    repeat' (first
        | refine rnB ?_
        | refine rnSB ?_
        | refine rnG ?_
        | refine rnU ?_
        | ((fail_if_success (refine rnKn ?_)); refine rnP ?_ ?_ <;> (intro hq; try (have hq' := hq; simp only [hqs] at hq')))
        | refine rkB ?_
        | refine rkSB ?_
        | refine rkF ?_
        | refine rkU ?_
        | ((fail_if_success (refine rkKn ?_)); refine rkP ?_ ?_ <;> (intro hq; try (have hq' := hq; simp only [hqs] at hq')))
        | refine stp ?_
        | refine aws_draws [] mixed (by kernel_rfl) ?_
        | refine ifT ?_
        | refine ifF ?_
        | (refine ifQ ?_ ?_ <;> (try (intro hn)))
        | (refine ifB ?_ ?_ <;> (intro hq; try (have hq' := hq; simp only [hqs] at hq'))))
    exact rt1 rfl rfl finS_p rfl
end Go.Proofs.Ytpamepepibnlfaa.Cl
