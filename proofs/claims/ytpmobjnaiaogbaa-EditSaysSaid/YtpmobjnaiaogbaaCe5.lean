/- edits: what an op does -/
import Derived.Test.YtpmobjnaiaogbaaCe4
namespace Go.Proofs.Ytpmobjnaiaogbaa.Ca
open Go Go.RowKit Go.Aw Go.Aw.Cart Go.Aw.Ord Go.Sort
set_option linter.unusedVariables false
set_option linter.unusedSimpArgs false
set_option maxRecDepth 8000
set_option maxHeartbeats 8000000
open E4
abbrev xL (x : Evt) : List AC := [.p (.i x.1), .p (.i x.2.1), .p (.i x.2.2.1), .p (.i x.2.2.2.1.1), .p (.k .u64 x.2.2.2.1.2), .p (.sl 2 (x.2.2.2.2.map dR) false)]
theorem fin6 {σ : St} {K : Nat → Bool} {p0 p1 p2 p3 p4 : PVal} : All2 (FinC σ K) [.p p0, .p p1, .p p2, .p p3, .p p4, .p (.v (.slice none 0 0))] [.p p0, .p p1, .p p2, .p p3, .p p4, .p (.sl 2 (([] : List Dot).map dR) false)] :=
  .cons .p (.cons .p (.cons .p (.cons .p (.cons .p (.cons .nil .nil)))))
theorem do_w (v : List Int) (l : List Ent) (ex : Bool) (nd : Int) (o : Op3) (hv : v.length = 8) (hb : ∀ n ∈ v, 0 ≤ n ∧ n < 18446744073709551616) (hl : l.length ≤ 1000000) : PCall Try.prog 31 [cV v l ex, .p (.i nd), opV o] (.tup [.agg (cL (doF (v, l) nd o).1.1.1 (doF (v, l) nd o).1.1.2 false), .agg (xL (doF (v, l) nd o).1.2), .one (.p (.i (doF (v, l) nd o).2))]) := by
  refine pcall_of Try.func31 rfl (fun w0 F S0 M0 => ?_)
  have hl2 : l.length ≤ 1000000000 := by omega
  have sl : (stL o l).length ≤ 1000000 := Nat.le_trans (List.length_filter_le _ _) hl
  have nx := next_w v nd hv hb
  obtain ⟨D, E, hDE⟩ : ∃ D E, nextF v nd = (D, E) := ⟨_, _, rfl⟩
  have hE : (nodeF nd = false → E = 11) ∧ (nodeF nd = true → E ≠ 11) ∧ (nodeF nd = true → getF v nd = 18446744073709551615 → E = 13) ∧ (nodeF nd = true → getF v nd ≠ 18446744073709551615 → E = 0 ∧ D = newD v nd) := by
    unfold nextF at hDE
    cases hn : nodeF nd with
    | false =>
      rw [if_pos hn] at hDE
      obtain ⟨rfl, rfl⟩ := Prod.mk.inj hDE
      simp
    | true =>
      rw [if_neg (by rw [hn]; simp)] at hDE
      by_cases hm : getF v nd = 18446744073709551615
      · rw [if_pos hm] at hDE
        obtain ⟨rfl, rfl⟩ := Prod.mk.inj hDE
        simp [hm]
      · rw [if_neg hm] at hDE
        obtain ⟨rfl, rfl⟩ := Prod.mk.inj hDE
        simp [hm, newD]
  obtain ⟨hE1, hE2, hE3, hE4⟩ := hE
  rw [hDE] at nx
  simp only at nx
  haveI : PC Try.prog 68 [vV v, .p (.i nd)] True (.tup [.agg (dL D), .one (.p (.i E))]) := ⟨fun _ => nx⟩
  clear nx hDE
  rcases (show o.1 = 1 ∨ o.1 = 2 ∨ (o.1 ≠ 1 ∧ o.1 ≠ 2) by omega) with hk | hk | hk
  · have d1 : decide (o.1 = 1) = true := decide_eq_true hk
    have ha : addsF o = true := decide_eq_true (by omega)
    repeat' (first
        | refine rnC ?_
        | refine rnSB ?_
        | refine rnG ?_
        | refine rnU ?_
        | refine rkC ?_
        | refine rkSB ?_
        | refine rkF ?_
        | refine rkU ?_
        | refine stp ?_
        | refine aws_draws [] mixed (by kernel_rfl) ?_
        | refine ifT ?_
        | refine ifF ?_
        | fail)
    refine aws_says (says_is (t := 13) (v' := .p (.b true)) rfl (by first | rfl | exact congrArg (fun b => AV.p (PVal.b b)) d2)) ?_
    cases hr : rightF v l with
    | false =>
      have t1 : (!rightF v l) = true := by rw [hr]; rfl
      have ee : doF (v, l) nd o = (((zeroV, []), zeroE), 3) := by unfold doF; rw [if_pos hr]
      rw [ee]
      as_aux_lemma =>
        repeat' (first
            | refine rnC ?_
            | refine rnSB ?_
            | refine rnG ?_
            | refine rnU ?_
            | refine rkC ?_
            | refine rkSB ?_
            | refine rkF ?_
            | refine rkU ?_
            | refine stp ?_
            | refine aws_draws [] mixed (by kernel_rfl) ?_
            | refine ifT ?_
            | refine ifF ?_
            | fail)
        exact rcc3 rfl rfl rfl rfl rfl rfl fin9 rfl rfl rfl rfl rfl fin6 rfl finS_p rfl
    | true =>
      have t1 : (!rightF v l) = false := by rw [hr]; rfl
      repeat' (first
          | refine rnC ?_
          | refine rnSB ?_
          | refine rnG ?_
          | refine rnU ?_
          | refine rkC ?_
          | refine rkSB ?_
          | refine rkF ?_
          | refine rkU ?_
          | refine stp ?_
          | refine aws_draws [] mixed (by kernel_rfl) ?_
          | refine ifT ?_
          | refine ifF ?_
          | fail)
      cases hm : mayF o with
      | false =>
        have t2 : (!mayF o) = true := by rw [hm]; rfl
        have ee : doF (v, l) nd o = (((zeroV, []), zeroE), 1) := by unfold doF; rw [if_neg (by simp [hr]), if_pos hm]
        rw [ee]
        as_aux_lemma =>
          repeat' (first
              | refine rnC ?_
              | refine rnSB ?_
              | refine rnG ?_
              | refine rnU ?_
              | refine rkC ?_
              | refine rkSB ?_
              | refine rkF ?_
              | refine rkU ?_
              | refine stp ?_
              | refine aws_draws [] mixed (by kernel_rfl) ?_
              | refine ifT ?_
              | refine ifF ?_
              | fail)
          exact rcc3 rfl rfl rfl rfl rfl rfl fin9 rfl rfl rfl rfl rfl fin6 rfl finS_p rfl
      | true =>
        have t2 : (!mayF o) = false := by rw [hm]; rfl
        repeat' (first
            | refine rnC ?_
            | refine rnSB ?_
            | refine rnG ?_
            | refine rnU ?_
            | refine rkC ?_
            | refine rkSB ?_
            | refine rkF ?_
            | refine rkU ?_
            | refine stp ?_
            | refine aws_draws [] mixed (by kernel_rfl) ?_
            | refine ifT ?_
            | refine ifF ?_
            | fail)
        cases hn : nodeF nd with
        | false =>
          have e11 := hE1 hn
          subst e11
          have ee : doF (v, l) nd o = (((zeroV, []), zeroE), 11) := by unfold doF; rw [if_neg (by simp [hr]), if_neg (by simp [hm]), if_pos hn]
          rw [ee]
          as_aux_lemma =>
            repeat' (first
                | refine rnC ?_
                | refine rnSB ?_
                | refine rnG ?_
                | refine rnU ?_
                | refine rkC ?_
                | refine rkSB ?_
                | refine rkF ?_
                | refine rkU ?_
                | refine stp ?_
                | refine aws_draws [] mixed (by kernel_rfl) ?_
                | refine ifT ?_
                | refine ifF ?_
                | fail)
            exact rcc3 rfl rfl rfl rfl rfl rfl fin9 rfl rfl rfl rfl rfl fin6 rfl finS_p rfl
        | true =>
          have t3 : decide (E = 11) = false := decide_eq_false (hE2 hn)
          repeat' (first
              | refine rnC ?_
              | refine rnSB ?_
              | refine rnG ?_
              | refine rnU ?_
              | refine rkC ?_
              | refine rkSB ?_
              | refine rkF ?_
              | refine rkU ?_
              | refine stp ?_
              | refine aws_draws [] mixed (by kernel_rfl) ?_
              | refine ifT ?_
              | refine ifF ?_
              | fail)
          by_cases hx : getF v nd = 18446744073709551615
          · have e13 := hE3 hn hx
            subst e13
            have ee : doF (v, l) nd o = (((zeroV, []), zeroE), 13) := by unfold doF; rw [if_neg (by simp [hr]), if_neg (by simp [hm]), if_neg (by simp [hn]), if_neg (by simp [ha]), if_pos hx]
            rw [ee]
            as_aux_lemma =>
              repeat' (first
                  | refine rnC ?_
                  | refine rnSB ?_
                  | refine rnG ?_
                  | refine rnU ?_
                  | refine rkC ?_
                  | refine rkSB ?_
                  | refine rkF ?_
                  | refine rkU ?_
                  | refine stp ?_
                  | refine aws_draws [] mixed (by kernel_rfl) ?_
                  | refine ifT ?_
                  | refine ifF ?_
                  | fail)
              exact rcc3 rfl rfl rfl rfl rfl rfl fin9 rfl rfl rfl rfl rfl fin6 rfl finS_p rfl
          · obtain ⟨e0, eD⟩ := hE4 hn hx
            clear hE1 hE2 hE3 hE4
            subst e0
            by_cases hs : 40 ≤ (stL o l).length
            · have t5 : decide (40 ≤ ((stL o l).length : Int)) = true := decide_eq_true (by omega)
              have ee : doF (v, l) nd o = (((zeroV, []), zeroE), 5) := by unfold doF; rw [if_neg (by simp [hr]), if_neg (by simp [hm]), if_neg (by simp [hn]), if_neg (by simp [ha]), if_neg hx, if_pos hs]
              rw [ee]
              as_aux_lemma =>
                repeat' (first
                    | refine rnC ?_
                    | refine rnSB ?_
                    | refine rnG ?_
                    | refine rnU ?_
                    | refine rkC ?_
                    | refine rkSB ?_
                    | refine rkF ?_
                    | refine rkU ?_
                    | refine stp ?_
                    | refine aws_draws [] mixed (by kernel_rfl) ?_
                    | refine ifT ?_
                    | refine ifF ?_
                    | fail)
                exact rcc3 rfl rfl rfl rfl rfl rfl fin9 rfl rfl rfl rfl rfl fin6 rfl finS_p rfl
            · have t5 : decide (40 ≤ ((stL o l).length : Int)) = false := decide_eq_false (by omega)
              have ee : doF (v, l) nd o = (((withF v D, sortE (stL o l ++ [(o.2.1, D.1, D.2, o.2.2)])), (o.1, o.2.1, o.2.2, D, offF o l)), 0) := by unfold doF; rw [if_neg (by simp [hr]), if_neg (by simp [hm]), if_neg (by simp [hn]), if_neg (by simp [ha]), if_neg hx, if_neg hs, eD]; rfl
              rw [ee]
              have hal : (stL o l ++ [(o.2.1, D.1, D.2, o.2.2)]).length ≤ 1000000000 := by rw [List.length_append, List.length_singleton]; omega
              repeat' (first
                  | refine rnC ?_
                  | refine rnSB ?_
                  | refine rnG ?_
                  | refine rnU ?_
                  | refine rkC ?_
                  | refine rkSB ?_
                  | refine rkF ?_
                  | refine rkU ?_
                  | refine stp ?_
                  | refine ifT ?_
                  | refine ifF ?_
                  | fail)
              refine rn_says (says_frz (t := 90) (o := 25) rfl rfl rfl (by rw [List.length_map])) rfl ?_
              repeat' (first
                  | refine rnC ?_
                  | refine rnSB ?_
                  | refine rnG ?_
                  | refine rnU ?_
                  | refine rkC ?_
                  | refine rkSB ?_
                  | refine rkF ?_
                  | refine rkU ?_
                  | refine stp ?_
                  | refine ifT ?_
                  | refine ifF ?_
                  | fail)
              refine aws_draws [(15, 6), (16, 7)] mixed (by kernel_rfl) ?_
              repeat' (first
                  | refine rk_nil ?_
                  | refine rkC ?_
                  | refine rkSB ?_
                  | refine rkF ?_
                  | refine rkU ?_
                  | ((fail_if_success (refine rkKn ?_)); refine rkP ?_ ?_ <;> (intro hq; try (have hq' := hq; simp only [hqs] at hq'))))
              as_aux_lemma =>
                repeat' (first
                    | refine rnC ?_
                    | refine rnSB ?_
                    | refine rnG ?_
                    | refine rnU ?_
                    | refine rkC ?_
                    | refine rkSB ?_
                    | refine rkF ?_
                    | refine rkU ?_
                    | refine stp ?_
                    | refine aws_draws [] mixed (by kernel_rfl) ?_
                    | refine ifT ?_
                    | refine ifF ?_
                    | fail)
                exact rcc3 rfl rfl rfl rfl rfl rfl finL_p rfl rfl rfl rfl rfl finL_p rfl finS_p rfl
  · have d1 : decide (o.1 = 1) = false := decide_eq_false (by omega)
    have d2 : decide (o.1 = 2) = true := decide_eq_true hk
    have ha : addsF o = true := decide_eq_true (by omega)
    repeat' (first
        | refine rnC ?_
        | refine rnSB ?_
        | refine rnG ?_
        | refine rnU ?_
        | refine rkC ?_
        | refine rkSB ?_
        | refine rkF ?_
        | refine rkU ?_
        | refine stp ?_
        | refine aws_draws [] mixed (by kernel_rfl) ?_
        | refine ifT ?_
        | refine ifF ?_
        | fail)
    refine aws_says (says_is (t := 13) (v' := .p (.b true)) rfl (by first | rfl | exact congrArg (fun b => AV.p (PVal.b b)) d2)) ?_
    cases hr : rightF v l with
    | false =>
      have t1 : (!rightF v l) = true := by rw [hr]; rfl
      have ee : doF (v, l) nd o = (((zeroV, []), zeroE), 3) := by unfold doF; rw [if_pos hr]
      rw [ee]
      as_aux_lemma =>
        repeat' (first
            | refine rnC ?_
            | refine rnSB ?_
            | refine rnG ?_
            | refine rnU ?_
            | refine rkC ?_
            | refine rkSB ?_
            | refine rkF ?_
            | refine rkU ?_
            | refine stp ?_
            | refine aws_draws [] mixed (by kernel_rfl) ?_
            | refine ifT ?_
            | refine ifF ?_
            | fail)
        exact rcc3 rfl rfl rfl rfl rfl rfl fin9 rfl rfl rfl rfl rfl fin6 rfl finS_p rfl
    | true =>
      have t1 : (!rightF v l) = false := by rw [hr]; rfl
      repeat' (first
          | refine rnC ?_
          | refine rnSB ?_
          | refine rnG ?_
          | refine rnU ?_
          | refine rkC ?_
          | refine rkSB ?_
          | refine rkF ?_
          | refine rkU ?_
          | refine stp ?_
          | refine aws_draws [] mixed (by kernel_rfl) ?_
          | refine ifT ?_
          | refine ifF ?_
          | fail)
      cases hm : mayF o with
      | false =>
        have t2 : (!mayF o) = true := by rw [hm]; rfl
        have ee : doF (v, l) nd o = (((zeroV, []), zeroE), 1) := by unfold doF; rw [if_neg (by simp [hr]), if_pos hm]
        rw [ee]
        as_aux_lemma =>
          repeat' (first
              | refine rnC ?_
              | refine rnSB ?_
              | refine rnG ?_
              | refine rnU ?_
              | refine rkC ?_
              | refine rkSB ?_
              | refine rkF ?_
              | refine rkU ?_
              | refine stp ?_
              | refine aws_draws [] mixed (by kernel_rfl) ?_
              | refine ifT ?_
              | refine ifF ?_
              | fail)
          exact rcc3 rfl rfl rfl rfl rfl rfl fin9 rfl rfl rfl rfl rfl fin6 rfl finS_p rfl
      | true =>
        have t2 : (!mayF o) = false := by rw [hm]; rfl
        repeat' (first
            | refine rnC ?_
            | refine rnSB ?_
            | refine rnG ?_
            | refine rnU ?_
            | refine rkC ?_
            | refine rkSB ?_
            | refine rkF ?_
            | refine rkU ?_
            | refine stp ?_
            | refine aws_draws [] mixed (by kernel_rfl) ?_
            | refine ifT ?_
            | refine ifF ?_
            | fail)
        cases hn : nodeF nd with
        | false =>
          have e11 := hE1 hn
          subst e11
          have ee : doF (v, l) nd o = (((zeroV, []), zeroE), 11) := by unfold doF; rw [if_neg (by simp [hr]), if_neg (by simp [hm]), if_pos hn]
          rw [ee]
          as_aux_lemma =>
            repeat' (first
                | refine rnC ?_
                | refine rnSB ?_
                | refine rnG ?_
                | refine rnU ?_
                | refine rkC ?_
                | refine rkSB ?_
                | refine rkF ?_
                | refine rkU ?_
                | refine stp ?_
                | refine aws_draws [] mixed (by kernel_rfl) ?_
                | refine ifT ?_
                | refine ifF ?_
                | fail)
            exact rcc3 rfl rfl rfl rfl rfl rfl fin9 rfl rfl rfl rfl rfl fin6 rfl finS_p rfl
        | true =>
          have t3 : decide (E = 11) = false := decide_eq_false (hE2 hn)
          repeat' (first
              | refine rnC ?_
              | refine rnSB ?_
              | refine rnG ?_
              | refine rnU ?_
              | refine rkC ?_
              | refine rkSB ?_
              | refine rkF ?_
              | refine rkU ?_
              | refine stp ?_
              | refine aws_draws [] mixed (by kernel_rfl) ?_
              | refine ifT ?_
              | refine ifF ?_
              | fail)
          by_cases hx : getF v nd = 18446744073709551615
          · have e13 := hE3 hn hx
            subst e13
            have ee : doF (v, l) nd o = (((zeroV, []), zeroE), 13) := by unfold doF; rw [if_neg (by simp [hr]), if_neg (by simp [hm]), if_neg (by simp [hn]), if_neg (by simp [ha]), if_pos hx]
            rw [ee]
            as_aux_lemma =>
              repeat' (first
                  | refine rnC ?_
                  | refine rnSB ?_
                  | refine rnG ?_
                  | refine rnU ?_
                  | refine rkC ?_
                  | refine rkSB ?_
                  | refine rkF ?_
                  | refine rkU ?_
                  | refine stp ?_
                  | refine aws_draws [] mixed (by kernel_rfl) ?_
                  | refine ifT ?_
                  | refine ifF ?_
                  | fail)
              exact rcc3 rfl rfl rfl rfl rfl rfl fin9 rfl rfl rfl rfl rfl fin6 rfl finS_p rfl
          · obtain ⟨e0, eD⟩ := hE4 hn hx
            clear hE1 hE2 hE3 hE4
            subst e0
            by_cases hs : 40 ≤ (stL o l).length
            · have t5 : decide (40 ≤ ((stL o l).length : Int)) = true := decide_eq_true (by omega)
              have ee : doF (v, l) nd o = (((zeroV, []), zeroE), 5) := by unfold doF; rw [if_neg (by simp [hr]), if_neg (by simp [hm]), if_neg (by simp [hn]), if_neg (by simp [ha]), if_neg hx, if_pos hs]
              rw [ee]
              as_aux_lemma =>
                repeat' (first
                    | refine rnC ?_
                    | refine rnSB ?_
                    | refine rnG ?_
                    | refine rnU ?_
                    | refine rkC ?_
                    | refine rkSB ?_
                    | refine rkF ?_
                    | refine rkU ?_
                    | refine stp ?_
                    | refine aws_draws [] mixed (by kernel_rfl) ?_
                    | refine ifT ?_
                    | refine ifF ?_
                    | fail)
                exact rcc3 rfl rfl rfl rfl rfl rfl fin9 rfl rfl rfl rfl rfl fin6 rfl finS_p rfl
            · have t5 : decide (40 ≤ ((stL o l).length : Int)) = false := decide_eq_false (by omega)
              have ee : doF (v, l) nd o = (((withF v D, sortE (stL o l ++ [(o.2.1, D.1, D.2, o.2.2)])), (o.1, o.2.1, o.2.2, D, offF o l)), 0) := by unfold doF; rw [if_neg (by simp [hr]), if_neg (by simp [hm]), if_neg (by simp [hn]), if_neg (by simp [ha]), if_neg hx, if_neg hs, eD]; rfl
              rw [ee]
              have hal : (stL o l ++ [(o.2.1, D.1, D.2, o.2.2)]).length ≤ 1000000000 := by rw [List.length_append, List.length_singleton]; omega
              repeat' (first
                  | refine rnC ?_
                  | refine rnSB ?_
                  | refine rnG ?_
                  | refine rnU ?_
                  | refine rkC ?_
                  | refine rkSB ?_
                  | refine rkF ?_
                  | refine rkU ?_
                  | refine stp ?_
                  | refine ifT ?_
                  | refine ifF ?_
                  | fail)
              refine rn_says (says_frz (t := 90) (o := 25) rfl rfl rfl (by rw [List.length_map])) rfl ?_
              repeat' (first
                  | refine rnC ?_
                  | refine rnSB ?_
                  | refine rnG ?_
                  | refine rnU ?_
                  | refine rkC ?_
                  | refine rkSB ?_
                  | refine rkF ?_
                  | refine rkU ?_
                  | refine stp ?_
                  | refine ifT ?_
                  | refine ifF ?_
                  | fail)
              refine aws_draws [(15, 6), (16, 7)] mixed (by kernel_rfl) ?_
              repeat' (first
                  | refine rk_nil ?_
                  | refine rkC ?_
                  | refine rkSB ?_
                  | refine rkF ?_
                  | refine rkU ?_
                  | ((fail_if_success (refine rkKn ?_)); refine rkP ?_ ?_ <;> (intro hq; try (have hq' := hq; simp only [hqs] at hq'))))
              as_aux_lemma =>
                repeat' (first
                    | refine rnC ?_
                    | refine rnSB ?_
                    | refine rnG ?_
                    | refine rnU ?_
                    | refine rkC ?_
                    | refine rkSB ?_
                    | refine rkF ?_
                    | refine rkU ?_
                    | refine stp ?_
                    | refine aws_draws [] mixed (by kernel_rfl) ?_
                    | refine ifT ?_
                    | refine ifF ?_
                    | fail)
                exact rcc3 rfl rfl rfl rfl rfl rfl finL_p rfl rfl rfl rfl rfl finL_p rfl finS_p rfl
  · have d1 : decide (o.1 = 1) = false := decide_eq_false (by omega)
    have d2 : decide (o.1 = 2) = false := decide_eq_false (by omega)
    have ha : addsF o = false := decide_eq_false (by omega)
    repeat' (first
        | refine rnC ?_
        | refine rnSB ?_
        | refine rnG ?_
        | refine rnU ?_
        | refine rkC ?_
        | refine rkSB ?_
        | refine rkF ?_
        | refine rkU ?_
        | refine stp ?_
        | refine aws_draws [] mixed (by kernel_rfl) ?_
        | refine ifT ?_
        | refine ifF ?_
        | fail)
    refine aws_says (says_is (t := 13) (v' := .p (.b false)) rfl (by first | rfl | exact congrArg (fun b => AV.p (PVal.b b)) d2)) ?_
    cases hr : rightF v l with
    | false =>
      have t1 : (!rightF v l) = true := by rw [hr]; rfl
      have ee : doF (v, l) nd o = (((zeroV, []), zeroE), 3) := by unfold doF; rw [if_pos hr]
      rw [ee]
      as_aux_lemma =>
        repeat' (first
            | refine rnC ?_
            | refine rnSB ?_
            | refine rnG ?_
            | refine rnU ?_
            | refine rkC ?_
            | refine rkSB ?_
            | refine rkF ?_
            | refine rkU ?_
            | refine stp ?_
            | refine aws_draws [] mixed (by kernel_rfl) ?_
            | refine ifT ?_
            | refine ifF ?_
            | fail)
        exact rcc3 rfl rfl rfl rfl rfl rfl fin9 rfl rfl rfl rfl rfl fin6 rfl finS_p rfl
    | true =>
      have t1 : (!rightF v l) = false := by rw [hr]; rfl
      repeat' (first
          | refine rnC ?_
          | refine rnSB ?_
          | refine rnG ?_
          | refine rnU ?_
          | refine rkC ?_
          | refine rkSB ?_
          | refine rkF ?_
          | refine rkU ?_
          | refine stp ?_
          | refine aws_draws [] mixed (by kernel_rfl) ?_
          | refine ifT ?_
          | refine ifF ?_
          | fail)
      cases hm : mayF o with
      | false =>
        have t2 : (!mayF o) = true := by rw [hm]; rfl
        have ee : doF (v, l) nd o = (((zeroV, []), zeroE), 1) := by unfold doF; rw [if_neg (by simp [hr]), if_pos hm]
        rw [ee]
        as_aux_lemma =>
          repeat' (first
              | refine rnC ?_
              | refine rnSB ?_
              | refine rnG ?_
              | refine rnU ?_
              | refine rkC ?_
              | refine rkSB ?_
              | refine rkF ?_
              | refine rkU ?_
              | refine stp ?_
              | refine aws_draws [] mixed (by kernel_rfl) ?_
              | refine ifT ?_
              | refine ifF ?_
              | fail)
          exact rcc3 rfl rfl rfl rfl rfl rfl fin9 rfl rfl rfl rfl rfl fin6 rfl finS_p rfl
      | true =>
        have t2 : (!mayF o) = false := by rw [hm]; rfl
        repeat' (first
            | refine rnC ?_
            | refine rnSB ?_
            | refine rnG ?_
            | refine rnU ?_
            | refine rkC ?_
            | refine rkSB ?_
            | refine rkF ?_
            | refine rkU ?_
            | refine stp ?_
            | refine aws_draws [] mixed (by kernel_rfl) ?_
            | refine ifT ?_
            | refine ifF ?_
            | fail)
        cases hn : nodeF nd with
        | false =>
          have e11 := hE1 hn
          subst e11
          have ee : doF (v, l) nd o = (((zeroV, []), zeroE), 11) := by unfold doF; rw [if_neg (by simp [hr]), if_neg (by simp [hm]), if_pos hn]
          rw [ee]
          as_aux_lemma =>
            repeat' (first
                | refine rnC ?_
                | refine rnSB ?_
                | refine rnG ?_
                | refine rnU ?_
                | refine rkC ?_
                | refine rkSB ?_
                | refine rkF ?_
                | refine rkU ?_
                | refine stp ?_
                | refine aws_draws [] mixed (by kernel_rfl) ?_
                | refine ifT ?_
                | refine ifF ?_
                | fail)
            exact rcc3 rfl rfl rfl rfl rfl rfl fin9 rfl rfl rfl rfl rfl fin6 rfl finS_p rfl
        | true =>
          have t3 : decide (E = 11) = false := decide_eq_false (hE2 hn)
          repeat' (first
              | refine rnC ?_
              | refine rnSB ?_
              | refine rnG ?_
              | refine rnU ?_
              | refine rkC ?_
              | refine rkSB ?_
              | refine rkF ?_
              | refine rkU ?_
              | refine stp ?_
              | refine aws_draws [] mixed (by kernel_rfl) ?_
              | refine ifT ?_
              | refine ifF ?_
              | fail)
          by_cases ho : (offF o l).length = 0
          · have t4 : decide (((offF o l).length : Int) = 0) = true := decide_eq_true (by omega)
            have ee : doF (v, l) nd o = (((zeroV, []), zeroE), 4) := by unfold doF; rw [if_neg (by simp [hr]), if_neg (by simp [hm]), if_neg (by simp [hn]), if_pos ha, if_pos ho]
            rw [ee]
            as_aux_lemma =>
              repeat' (first
                  | refine rnC ?_
                  | refine rnSB ?_
                  | refine rnG ?_
                  | refine rnU ?_
                  | refine rkC ?_
                  | refine rkSB ?_
                  | refine rkF ?_
                  | refine rkU ?_
                  | refine stp ?_
                  | refine aws_draws [] mixed (by kernel_rfl) ?_
                  | refine ifT ?_
                  | refine ifF ?_
                  | fail)
              exact rcc3 rfl rfl rfl rfl rfl rfl fin9 rfl rfl rfl rfl rfl fin6 rfl finS_p rfl
          · have t4 : decide (((offF o l).length : Int) = 0) = false := decide_eq_false (by omega)
            have ee : doF (v, l) nd o = (((v, stL o l), (o.1, 0, 0, (0, 0), offF o l)), 0) := by unfold doF; rw [if_neg (by simp [hr]), if_neg (by simp [hm]), if_neg (by simp [hn]), if_pos ha, if_neg ho]
            rw [ee]
            repeat' (first
                | refine rnC ?_
                | refine rnSB ?_
                | refine rnG ?_
                | refine rnU ?_
                | refine rkC ?_
                | refine rkSB ?_
                | refine rkF ?_
                | refine rkU ?_
                | refine stp ?_
                | refine ifT ?_
                | refine ifF ?_
                | fail)
            refine aws_says (says_frz (t := 11) (o := 25) rfl rfl rfl (by rw [List.length_map])) ?_
            refine aws_draws [(8, 6), (9, 7)] mixed (by kernel_rfl) ?_
            repeat' (first
                | refine rk_nil ?_
                | refine rkC ?_
                | refine rkSB ?_
                | refine rkF ?_
                | refine rkU ?_
                | ((fail_if_success (refine rkKn ?_)); refine rkP ?_ ?_ <;> (intro hq; try (have hq' := hq; simp only [hqs] at hq'))))
            as_aux_lemma =>
              repeat' (first
                  | refine rnC ?_
                  | refine rnSB ?_
                  | refine rnG ?_
                  | refine rnU ?_
                  | refine rkC ?_
                  | refine rkSB ?_
                  | refine rkF ?_
                  | refine rkU ?_
                  | refine stp ?_
                  | refine aws_draws [] mixed (by kernel_rfl) ?_
                  | refine ifT ?_
                  | refine ifF ?_
                  | fail)
              exact rcc3 rfl rfl rfl rfl rfl rfl finL_p rfl rfl rfl rfl rfl finL_p rfl finS_p rfl
end Go.Proofs.Ytpmobjnaiaogbaa.Ca
