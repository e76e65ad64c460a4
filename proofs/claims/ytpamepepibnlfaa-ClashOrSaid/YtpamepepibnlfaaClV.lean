/- clashes, the laws: ClashOne -/
import Derived.Test.YtpamepepibnlfaaClK
import Derived.Test.YtpamepepibnlfaaClG
import Derived.Test.YtpamepepibnlfaaSh8
namespace Go.Proofs.Ytpamepepibnlfaa.Cl
open Go Go.RowKit Go.Aw Go.Aw.Sha Go.Aw.Tree Go.Aw.Clash Go.Proofs.Ytpamepepibnlfaa.Sh Go.Proofs.Ytpamepepibnlfaa.Tr
set_option linter.unusedVariables false
set_option linter.unusedSimpArgs false
set_option maxRecDepth 8000
attribute [local irreducible] sum
set_option maxHeartbeats 4000000
theorem set_few {ls : List (List Nat)} {k : Nat} {b : List Nat} (h : few ls) (hb : b.length ≤ 400000000) : few (ls.set k b) := ⟨by rw [List.length_set]; exact h.1, fun x hx => by
  rcases List.mem_or_eq_of_mem_set hx with h1 | h1
  · exact h.2 x h1
  · rw [h1]; exact hb⟩
theorem set_okT {ls : List (List Nat)} {k : Nat} {b : List Nat} (h : okT ls) (hb : okB b) : okT (ls.set k b) := fun x hx => by
  rcases List.mem_or_eq_of_mem_set hx with h1 | h1
  · exact h x h1
  · rw [h1]; exact hb
theorem one_w (ls : List (List Nat)) (leaf : Int) (b : List Nat) (hl16 : ls.length = 16) (ol : okT ls) (ob : okB b) (hbl : b.length ≤ 9223372036854775807) : PCall Try.prog 6 [txs ls, .p (.i leaf), bytesN b false] (.p (.b true)) := by
  refine pcall_of Try.func6 rfl (fun w0 F S0 M0 => ?_)
  cases hg : greatF ls with
  | true =>
    repeat' (first
        | refine rnB ?_
        | refine rnSB ?_
        | refine rnG ?_
        | refine rnU ?_
        | ((fail_if_success (refine rnKn ?_)); refine rnP ?_ ?_ <;> (intro hq; try (have hq' := hq; simp only [hqs] at hq')))
        | refine rkB ?_
        | refine rkSB ?_
        | refine rkF ?_
        | refine rkU ?_
        | ((fail_if_success (refine rkKn ?_)); refine rkP ?_ ?_ <;> (intro hq; try (have hq' := hq; simp only [hqs] at hq')))
        | refine stp ?_
        | refine aws_draws [] mixed (by kernel_rfl) ?_
        | refine ifT ?_
        | refine ifF ?_
        | (refine ifQ ?_ ?_ <;> (try (intro hn)))
        | (refine ifB ?_ ?_ <;> (intro hq; try (have hq' := hq; simp only [hqs] at hq'))))
    exact rt1 rfl rfl finS_p rfl
  | false =>
    have hf := greatF_few hl16 hg
    by_cases h3 : 300 < b.length
    · have hd : decide (300 < (b.length : Int)) = true := decide_eq_true (by omega)
      repeat' (first
          | refine rnB ?_
          | refine rnSB ?_
          | refine rnG ?_
          | refine rnU ?_
          | ((fail_if_success (refine rnKn ?_)); refine rnP ?_ ?_ <;> (intro hq; try (have hq' := hq; simp only [hqs] at hq')))
          | refine rkB ?_
          | refine rkSB ?_
          | refine rkF ?_
          | refine rkU ?_
          | ((fail_if_success (refine rkKn ?_)); refine rkP ?_ ?_ <;> (intro hq; try (have hq' := hq; simp only [hqs] at hq')))
          | refine stp ?_
          | refine aws_draws [] mixed (by kernel_rfl) ?_
          | refine ifT ?_
          | refine ifF ?_
          | (refine ifQ ?_ ?_ <;> (try (intro hn)))
          | (refine ifB ?_ ?_ <;> (intro hq; try (have hq' := hq; simp only [hqs] at hq'))))
      exact rt1 rfl rfl finS_p rfl
    · have hd : decide (300 < (b.length : Int)) = false := decide_eq_false (by omega)
      by_cases h4 : leaf < 0
      · have hd2 : decide (leaf < 0) = true := decide_eq_true h4
        repeat' (first
            | refine rnB ?_
            | refine rnSB ?_
            | refine rnG ?_
            | refine rnU ?_
            | ((fail_if_success (refine rnKn ?_)); refine rnP ?_ ?_ <;> (intro hq; try (have hq' := hq; simp only [hqs] at hq')))
            | refine rkB ?_
            | refine rkSB ?_
            | refine rkF ?_
            | refine rkU ?_
            | ((fail_if_success (refine rkKn ?_)); refine rkP ?_ ?_ <;> (intro hq; try (have hq' := hq; simp only [hqs] at hq')))
            | refine stp ?_
            | refine aws_draws [] mixed (by kernel_rfl) ?_
            | refine ifT ?_
            | refine ifF ?_
            | (refine ifQ ?_ ?_ <;> (try (intro hn)))
            | (refine ifB ?_ ?_ <;> (intro hq; try (have hq' := hq; simp only [hqs] at hq'))))
        exact rt1 rfl rfl finS_p rfl
      · have hd2 : decide (leaf < 0) = false := decide_eq_false h4
        by_cases h5 : 15 < leaf
        · have hd3 : decide (15 < leaf) = true := decide_eq_true h5
          repeat' (first
              | refine rnB ?_
              | refine rnSB ?_
              | refine rnG ?_
              | refine rnU ?_
              | ((fail_if_success (refine rnKn ?_)); refine rnP ?_ ?_ <;> (intro hq; try (have hq' := hq; simp only [hqs] at hq')))
              | refine rkB ?_
              | refine rkSB ?_
              | refine rkF ?_
              | refine rkU ?_
              | ((fail_if_success (refine rkKn ?_)); refine rkP ?_ ?_ <;> (intro hq; try (have hq' := hq; simp only [hqs] at hq')))
              | refine stp ?_
              | refine aws_draws [] mixed (by kernel_rfl) ?_
              | refine ifT ?_
              | refine ifF ?_
              | (refine ifQ ?_ ?_ <;> (try (intro hn)))
              | (refine ifB ?_ ?_ <;> (intro hq; try (have hq' := hq; simp only [hqs] at hq'))))
          exact rt1 rfl rfl finS_p rfl
        · have hd3 : decide (15 < leaf) = false := decide_eq_false h5
          have obl := okT_get ol leaf.toNat
          by_cases h6 : ls.getD leaf.toNat default = b
          · have hd4 : decide (ls.getD leaf.toNat default = b) = true := decide_eq_true h6
            repeat' (first
                | refine rnB ?_
                | refine rnSB ?_
                | refine rnG ?_
                | refine rnU ?_
                | ((fail_if_success (refine rnKn ?_)); refine rnP ?_ ?_ <;> (intro hq; try (have hq' := hq; simp only [hqs] at hq')))
                | refine rkB ?_
                | refine rkSB ?_
                | refine rkF ?_
                | refine rkU ?_
                | ((fail_if_success (refine rkKn ?_)); refine rkP ?_ ?_ <;> (intro hq; try (have hq' := hq; simp only [hqs] at hq')))
                | refine stp ?_
                | refine aws_draws [] mixed (by kernel_rfl) ?_
                | refine ifT ?_
                | refine ifF ?_
                | (refine ifQ ?_ ?_ <;> (try (intro hn)))
                | (refine ifB ?_ ?_ <;> (intro hq; try (have hq' := hq; simp only [hqs] at hq'))))
            exact rt1 rfl rfl finS_p rfl
          · have hd4 : decide (ls.getD leaf.toNat default = b) = false := decide_eq_false h6
            have hf2 : few (ls.set leaf.toNat b) := set_few hf (by omega)
            have om : okT (ls.set leaf.toNat b) := set_okT ol ob
            have hlk : leaf.toNat < 16 := by omega
            have hls : (ls.set leaf.toNat b).length = 16 := hf2.1
            have hother : ∀ i, i < 16 → i ≠ leaf.toNat → ls.getD i default = (ls.set leaf.toNat b).getD i default := fun i _ hik => by
              rw [List.getD_eq_getElem?_getD, List.getD_eq_getElem?_getD, List.getElem?_set_ne (fun e => hik e.symm)]
            have hself : (ls.set leaf.toNat b).getD leaf.toNat default = b := by
              rw [List.getD_eq_getElem?_getD, List.getElem?_set_self (by omega)]; rfl
            obtain ⟨b1, b2⟩ := exF_ok ol om
            obtain ⟨n1, n2⟩ := exF_len hf hf2
            have hs := ex_says ls (ls.set leaf.toNat b)
            have hx := extract_w ls (ls.set leaf.toNat b) ⟨hf, hf2, ol, om⟩
            generalize exF ls (ls.set leaf.toNat b) = x at *
            obtain ⟨p, q, is⟩ := x
            simp only at b1 b2 n1 n2 hs
            haveI : PC Try.prog 18 [txs ls, txs (ls.set leaf.toNat b)] True (.tup [.one (.p (bytesP p false)), .one (.p (bytesP q false)), .one (.p (.b is))]) := ⟨fun _ => hx⟩
            have m1 : p.length ≤ 500000000 := by omega
            have m2 : q.length ≤ 500000000 := by omega
            rcases hs with ⟨h1, _, hn⟩ | ⟨h1, h2, h3⟩
            · subst h1
              have hw := walk_one hlk hn hother (by rw [hself]; exact h6)
              have c1 := of_c ls hf
              have c2 := of_c (ls.set leaf.toNat b) hf2
              have lT := ofF_len ls
              have lU := ofF_len (ls.set leaf.toNat b)
              generalize ofF ls = T at *
              generalize ofF (ls.set leaf.toNat b) = U at *
              have c3 := diff_w T U ⟨lT, lU⟩
              have c4 := rounds_w T U ⟨lT, lU⟩
              rw [hw, leaves_one _ hlk] at c3
              rw [hw] at c4
              obtain ⟨L, hL⟩ : ∃ L : List Int, L = [(leaf.toNat : Int)] := ⟨_, rfl⟩
              rw [← hL] at c3
              haveI : PC Try.prog 26 [txs ls] True (tv T) := ⟨fun _ => c1⟩
              haveI : PC Try.prog 26 [txs (ls.set leaf.toNat b)] True (tv U) := ⟨fun _ => c2⟩
              haveI : PC Try.prog 25 [tv T, tv U] True (.tup [.one (.p (.sl 1 (L.map fun n => [PVal.i n]) false)), .one (.p (.i 9))]) := ⟨fun _ => c3⟩
              haveI : PC Try.prog 27 [tv T, tv U] True (.p (.i 3)) := ⟨fun _ => c4⟩
              have e1 : decide ((L.length : Int) = 1) = true := by rw [hL]; rfl
              have e2 : L.length = 1 := by rw [hL]; rfl
              have e3 : decide (L.getD (Int.toNat 0) default = leaf) = true := by rw [hL]; exact decide_eq_true (by show ((leaf.toNat : Nat) : Int) = leaf; omega)
              clear hL c1 c2 c3 c4 hw hn hx
              repeat' (first
                  | refine rnB ?_
                  | refine rnSB ?_
                  | refine rnG ?_
                  | refine rnU ?_
                  | ((fail_if_success (refine rnKn ?_)); refine rnP ?_ ?_ <;> (intro hq; try (have hq' := hq; simp only [hqs] at hq')))
                  | refine rkB ?_
                  | refine rkSB ?_
                  | refine rkF ?_
                  | refine rkU ?_
                  | ((fail_if_success (refine rkKn ?_)); refine rkP ?_ ?_ <;> (intro hq; try (have hq' := hq; simp only [hqs] at hq')))
                  | refine stp ?_
                  | refine aws_draws [] mixed (by kernel_rfl) ?_
                  | refine ifT ?_
                  | refine ifF ?_
                  | (refine ifQ ?_ ?_ <;> (try (intro hn)))
                  | (refine ifB ?_ ?_ <;> (intro hq; try (have hq' := hq; simp only [hqs] at hq'))))
              exact rt1 rfl rfl finS_p rfl
            · subst h1
              have e1 : (!decide (p = q)) = true := by rw [decide_eq_false h2]; rfl
              have e2 : decide (sum p = sum q) = true := decide_eq_true h3
              have l1 := sumLen p
              have l2 := sumLen q
              repeat' (first
                  | refine rnB ?_
                  | refine rnSB ?_
                  | refine rnG ?_
                  | refine rnU ?_
                  | ((fail_if_success (refine rnKn ?_)); refine rnP ?_ ?_ <;> (intro hq; try (have hq' := hq; simp only [hqs] at hq')))
                  | refine rkB ?_
                  | refine rkSB ?_
                  | refine rkF ?_
                  | refine rkU ?_
                  | ((fail_if_success (refine rkKn ?_)); refine rkP ?_ ?_ <;> (intro hq; try (have hq' := hq; simp only [hqs] at hq')))
                  | refine stp ?_
                  | refine aws_draws [] mixed (by kernel_rfl) ?_
                  | refine ifT ?_
                  | refine ifF ?_
                  | (refine ifQ ?_ ?_ <;> (try (intro hn)))
                  | (refine ifB ?_ ?_ <;> (intro hq; try (have hq' := hq; simp only [hqs] at hq'))))
              exact rt1 rfl rfl finS_p (rb e2.symm)
end Go.Proofs.Ytpamepepibnlfaa.Cl
