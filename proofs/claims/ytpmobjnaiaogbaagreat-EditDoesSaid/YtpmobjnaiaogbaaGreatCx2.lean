/- the reference, chapter 07: what an op does: errors ahead; what takes -/
import Derived.Test.YtpmobjnaiaogbaaGreatCq30
namespace Go.Proofs.YtpmobjnaiaogbaaGreat.Cq
open Go Go.RowKit Go.Aw Go.Aw.Cart Go.Aw.Ord Go.Proofs.YtpmobjnaiaogbaaGreat.Ca
set_option linter.unusedVariables false
set_option linter.unusedSimpArgs false
set_option maxRecDepth 8000
set_option maxHeartbeats 8000000
open Q3
theorem do7_a (MAY : ∀ o : Op3, PCall Tryz.prog 39 [opV o] (.p (.b (mayF o)))) (STAYS : ∀ (e : Ent) (o : Op3), mayF o = true → PCall Tryz.prog 66 [eV e, opV o] (.p (.b (!goneF o e)))) (v : List Int) (l : List Ent) (ex : Bool) (nd : Int) (o : Op3) (hv : v.length = 8) (hb : ∀ n ∈ v, 0 ≤ n ∧ n < 18446744073709551616) (hl : l.length ≤ 1000000) (hbad : rightF v l = false ∨ mayF o = false ∨ nodeF nd = false) : PCall Tryz.prog 36 [cV v l ex, .p (.i nd), opV o] (.tup [.agg (cL (doF (v, l) nd o).1.1.1 (doF (v, l) nd o).1.1.2 false), .agg (y6 (doF (v, l) nd o).1.2), .one (.p (.i (doF (v, l) nd o).2))]) := by
  refine pcall_of Tryz.func36 rfl (fun w0 F S0 M0 => ?_)
  have hl2 : l.length ≤ 1000000000 := by omega
  have h0 : ∀ n ∈ v, 0 ≤ n := fun n hn => (hb n hn).1
  have nx := next3_r v nd hv hb
  obtain ⟨D, E, hDE⟩ : ∃ D E, nextF v nd = (D, E) := ⟨_, _, rfl⟩
  have hE : (nodeF nd = true → getF v nd = 18446744073709551615 → E = 13) ∧ (nodeF nd = true → getF v nd ≠ 18446744073709551615 → E = 0 ∧ D = newD v nd) := by
    unfold nextF at hDE
    refine ⟨fun hn hm => ?_, fun hn hm => ?_⟩
    · rw [if_neg (by rw [hn]; simp), if_pos hm] at hDE
      exact (Prod.mk.inj hDE).2.symm
    · rw [if_neg (by rw [hn]; simp), if_neg hm] at hDE
      exact ⟨(Prod.mk.inj hDE).2.symm, (Prod.mk.inj hDE).1.symm⟩
  obtain ⟨hE3, hE4⟩ := hE
  rw [hDE] at nx
  simp only at nx
  have cr := Cr.right_r v l ex hv hl2
  haveI : PC Tryz.prog 67 [vV v, .p (.i nd)] True (.tup [.agg (dL D), .one (.p (.i E))]) := ⟨fun _ => nx⟩
  haveI : PC Tryz.prog 11 [cV v l ex] True (.p (.b (rightF v l))) := ⟨fun _ => cr⟩
  haveI : PC Tryz.prog 39 [opV o] True (.p (.b (mayF o))) := ⟨fun _ => MAY o⟩
  haveI : ∀ e : Ent, PC Tryz.prog 66 [eV e, opV o] (mayF o = true) (.p (.b (!goneF o e))) := fun e => ⟨STAYS e o⟩
  clear nx hDE cr MAY STAYS
  have nn : nodeF nd = decide (1 ≤ nd ∧ nd ≤ 8) := rfl
  repeat' (first
      | refine rnC ?_
      | refine rnSB ?_
      | refine rnG ?_
      | refine rnU ?_
      | refine rkC ?_
      | refine rkSB ?_
      | refine rkF ?_
      | refine rkU ?_
      | refine stp ?_
      | refine ifT ?_
      | refine ifF ?_
      | fail)
  cases hr : rightF v l with
  | false =>
    have t1 : (!rightF v l) = true := by rw [hr]; rfl
    have ee : doF (v, l) nd o = (((zeroV, []), zeroE), 3) := by unfold doF; rw [if_pos hr]
    rw [ee]
    repeat' (first
        | refine rnC ?_
        | refine rnSB ?_
        | refine rnG ?_
        | refine rnU ?_
        | refine rkC ?_
        | refine rkSB ?_
        | refine rkF ?_
        | refine rkU ?_
        | refine stp ?_
        | refine ifT ?_
        | refine ifF ?_
        | fail)
    refine aws_draws [(2, 6), (3, 7)] mixed (by kernel_rfl) ?_
    repeat' (first
        | refine rk_nil ?_
        | refine rkC ?_
        | refine rkSB ?_
        | refine rkF ?_
        | refine rkU ?_
        | ((fail_if_success (refine rkKn ?_)); refine rkP ?_ ?_ <;> (intro hq; try (have hq' := hq; simp only [hqs] at hq'))))
    as_aux_lemma =>
      repeat' (first
          | refine rnC ?_
          | refine rnSB ?_
          | refine rnG ?_
          | refine rnU ?_
          | refine rkC ?_
          | refine rkSB ?_
          | refine rkF ?_
          | refine rkU ?_
          | refine stp ?_
          | refine aws_draws [] mixed (by kernel_rfl) ?_
          | refine ifT ?_
          | refine ifF ?_
          | fail)
      exact rcc3 rfl rfl rfl rfl rfl rfl fin9 rfl rfl rfl rfl rfl fin6 rfl finS_p rfl
  | true =>
    have t1 : (!rightF v l) = false := by rw [hr]; rfl
    repeat' (first
        | refine rnC ?_
        | refine rnSB ?_
        | refine rnG ?_
        | refine rnU ?_
        | refine rkC ?_
        | refine rkSB ?_
        | refine rkF ?_
        | refine rkU ?_
        | refine stp ?_
        | refine aws_draws [] mixed (by kernel_rfl) ?_
        | refine ifT ?_
        | refine ifF ?_
        | fail)
    cases hm : mayF o with
    | false =>
      have t2 : (!mayF o) = true := by rw [hm]; rfl
      have ee : doF (v, l) nd o = (((zeroV, []), zeroE), 1) := by unfold doF; rw [if_neg (by simp [hr]), if_pos hm]
      rw [ee]
      repeat' (first
          | refine rnC ?_
          | refine rnSB ?_
          | refine rnG ?_
          | refine rnU ?_
          | refine rkC ?_
          | refine rkSB ?_
          | refine rkF ?_
          | refine rkU ?_
          | refine stp ?_
          | refine ifT ?_
          | refine ifF ?_
          | fail)
      refine aws_draws [(2, 6), (3, 7)] mixed (by kernel_rfl) ?_
      repeat' (first
          | refine rk_nil ?_
          | refine rkC ?_
          | refine rkSB ?_
          | refine rkF ?_
          | refine rkU ?_
          | ((fail_if_success (refine rkKn ?_)); refine rkP ?_ ?_ <;> (intro hq; try (have hq' := hq; simp only [hqs] at hq'))))
      as_aux_lemma =>
        repeat' (first
            | refine rnC ?_
            | refine rnSB ?_
            | refine rnG ?_
            | refine rnU ?_
            | refine rkC ?_
            | refine rkSB ?_
            | refine rkF ?_
            | refine rkU ?_
            | refine stp ?_
            | refine aws_draws [] mixed (by kernel_rfl) ?_
            | refine ifT ?_
            | refine ifF ?_
            | fail)
        exact rcc3 rfl rfl rfl rfl rfl rfl fin9 rfl rfl rfl rfl rfl fin6 rfl finS_p rfl
    | true =>
      have t2 : (!mayF o) = false := by rw [hm]; rfl
      have hkind := of_decide_eq_true hm
      repeat' (first
          | refine rnC ?_
          | refine rnSB ?_
          | refine rnG ?_
          | refine rnU ?_
          | refine rkC ?_
          | refine rkSB ?_
          | refine rkF ?_
          | refine rkU ?_
          | refine stp ?_
          | refine aws_draws [] mixed (by kernel_rfl) ?_
          | refine ifT ?_
          | refine ifF ?_
          | fail)
      by_cases h1 : nd < 1
      · have d1 : decide (nd < 1) = true := decide_eq_true h1
        have hn : nodeF nd = false := by rw [nn]; exact decide_eq_false (by omega)
        have ee : doF (v, l) nd o = (((zeroV, []), zeroE), 11) := by unfold doF; rw [if_neg (by simp [hr]), if_neg (by simp [hm]), if_pos hn]
        rw [ee]
        repeat' (first
            | refine rnC ?_
            | refine rnSB ?_
            | refine rnG ?_
            | refine rnU ?_
            | refine rkC ?_
            | refine rkSB ?_
            | refine rkF ?_
            | refine rkU ?_
            | refine stp ?_
            | refine ifT ?_
            | refine ifF ?_
            | fail)
        refine aws_draws [(2, 6), (3, 7)] mixed (by kernel_rfl) ?_
        repeat' (first
            | refine rk_nil ?_
            | refine rkC ?_
            | refine rkSB ?_
            | refine rkF ?_
            | refine rkU ?_
            | ((fail_if_success (refine rkKn ?_)); refine rkP ?_ ?_ <;> (intro hq; try (have hq' := hq; simp only [hqs] at hq'))))
        as_aux_lemma =>
          repeat' (first
              | refine rnC ?_
              | refine rnSB ?_
              | refine rnG ?_
              | refine rnU ?_
              | refine rkC ?_
              | refine rkSB ?_
              | refine rkF ?_
              | refine rkU ?_
              | refine stp ?_
              | refine aws_draws [] mixed (by kernel_rfl) ?_
              | refine ifT ?_
              | refine ifF ?_
              | fail)
          exact rcc3 rfl rfl rfl rfl rfl rfl fin9 rfl rfl rfl rfl rfl fin6 rfl finS_p rfl
      · have d1 : decide (nd < 1) = false := decide_eq_false h1
        repeat' (first
            | refine rnC ?_
            | refine rnSB ?_
            | refine rnG ?_
            | refine rnU ?_
            | refine rkC ?_
            | refine rkSB ?_
            | refine rkF ?_
            | refine rkU ?_
            | refine stp ?_
            | refine aws_draws [] mixed (by kernel_rfl) ?_
            | refine ifT ?_
            | refine ifF ?_
            | fail)
        by_cases h2 : 8 < nd
        · have d2 : decide (8 < nd) = true := decide_eq_true h2
          have hn : nodeF nd = false := by rw [nn]; exact decide_eq_false (by omega)
          have ee : doF (v, l) nd o = (((zeroV, []), zeroE), 11) := by unfold doF; rw [if_neg (by simp [hr]), if_neg (by simp [hm]), if_pos hn]
          rw [ee]
          repeat' (first
              | refine rnC ?_
              | refine rnSB ?_
              | refine rnG ?_
              | refine rnU ?_
              | refine rkC ?_
              | refine rkSB ?_
              | refine rkF ?_
              | refine rkU ?_
              | refine stp ?_
              | refine ifT ?_
              | refine ifF ?_
              | fail)
          refine aws_draws [(2, 6), (3, 7)] mixed (by kernel_rfl) ?_
          repeat' (first
              | refine rk_nil ?_
              | refine rkC ?_
              | refine rkSB ?_
              | refine rkF ?_
              | refine rkU ?_
              | ((fail_if_success (refine rkKn ?_)); refine rkP ?_ ?_ <;> (intro hq; try (have hq' := hq; simp only [hqs] at hq'))))
          as_aux_lemma =>
            repeat' (first
                | refine rnC ?_
                | refine rnSB ?_
                | refine rnG ?_
                | refine rnU ?_
                | refine rkC ?_
                | refine rkSB ?_
                | refine rkF ?_
                | refine rkU ?_
                | refine stp ?_
                | refine aws_draws [] mixed (by kernel_rfl) ?_
                | refine ifT ?_
                | refine ifF ?_
                | fail)
            exact rcc3 rfl rfl rfl rfl rfl rfl fin9 rfl rfl rfl rfl rfl fin6 rfl finS_p rfl
        · have d2 : decide (8 < nd) = false := decide_eq_false h2
          have hn : nodeF nd = true := by rw [nn]; exact decide_eq_true (by omega)
          rcases hbad with k | k | k
          · rw [hr] at k; cases k
          · rw [hm] at k; cases k
          · rw [hn] at k; cases k
end Go.Proofs.YtpmobjnaiaogbaaGreat.Cq
namespace Go.Proofs.YtpmobjnaiaogbaaGreat.Cq
open Go Go.RowKit Go.Aw Go.Aw.Cart Go.Aw.Ord Go.Proofs.YtpmobjnaiaogbaaGreat.Ca
set_option linter.unusedVariables false
set_option linter.unusedSimpArgs false
set_option maxRecDepth 8000
set_option maxHeartbeats 8000000
open Q3
theorem do7_b (MAY : ∀ o : Op3, PCall Tryz.prog 39 [opV o] (.p (.b (mayF o)))) (STAYS : ∀ (e : Ent) (o : Op3), mayF o = true → PCall Tryz.prog 66 [eV e, opV o] (.p (.b (!goneF o e)))) (v : List Int) (l : List Ent) (ex : Bool) (nd : Int) (o : Op3) (hv : v.length = 8) (hb : ∀ n ∈ v, 0 ≤ n ∧ n < 18446744073709551616) (hl : l.length ≤ 1000000) (hr : rightF v l = true) (hm : mayF o = true) (hn : nodeF nd = true) (hk : 2 < o.1) : PCall Tryz.prog 36 [cV v l ex, .p (.i nd), opV o] (.tup [.agg (cL (doF (v, l) nd o).1.1.1 (doF (v, l) nd o).1.1.2 false), .agg (y6 (doF (v, l) nd o).1.2), .one (.p (.i (doF (v, l) nd o).2))]) := by
  refine pcall_of Tryz.func36 rfl (fun w0 F S0 M0 => ?_)
  have hl2 : l.length ≤ 1000000000 := by omega
  have h0 : ∀ n ∈ v, 0 ≤ n := fun n hn => (hb n hn).1
  have nx := next3_r v nd hv hb
  obtain ⟨D, E, hDE⟩ : ∃ D E, nextF v nd = (D, E) := ⟨_, _, rfl⟩
  have hE : (nodeF nd = true → getF v nd = 18446744073709551615 → E = 13) ∧ (nodeF nd = true → getF v nd ≠ 18446744073709551615 → E = 0 ∧ D = newD v nd) := by
    unfold nextF at hDE
    refine ⟨fun hn hm => ?_, fun hn hm => ?_⟩
    · rw [if_neg (by rw [hn]; simp), if_pos hm] at hDE
      exact (Prod.mk.inj hDE).2.symm
    · rw [if_neg (by rw [hn]; simp), if_neg hm] at hDE
      exact ⟨(Prod.mk.inj hDE).2.symm, (Prod.mk.inj hDE).1.symm⟩
  obtain ⟨hE3, hE4⟩ := hE
  rw [hDE] at nx
  simp only at nx
  have cr := Cr.right_r v l ex hv hl2
  haveI : PC Tryz.prog 67 [vV v, .p (.i nd)] True (.tup [.agg (dL D), .one (.p (.i E))]) := ⟨fun _ => nx⟩
  haveI : PC Tryz.prog 11 [cV v l ex] True (.p (.b (rightF v l))) := ⟨fun _ => cr⟩
  haveI : PC Tryz.prog 39 [opV o] True (.p (.b (mayF o))) := ⟨fun _ => MAY o⟩
  haveI : ∀ e : Ent, PC Tryz.prog 66 [eV e, opV o] (mayF o = true) (.p (.b (!goneF o e))) := fun e => ⟨STAYS e o⟩
  clear nx hDE cr MAY STAYS
  have nn : nodeF nd = decide (1 ≤ nd ∧ nd ≤ 8) := rfl
  have t1 : (!rightF v l) = false := by rw [hr]; rfl
  have t2 : (!mayF o) = false := by rw [hm]; rfl
  have hkind := of_decide_eq_true hm
  have hnn := of_decide_eq_true hn
  have d1 : decide (nd < 1) = false := decide_eq_false (by omega)
  have d2 : decide (8 < nd) = false := decide_eq_false (by omega)
  repeat' (first
      | refine rnC ?_
      | refine rnSB ?_
      | refine rnG ?_
      | refine rnU ?_
      | refine rkC ?_
      | refine rkSB ?_
      | refine rkF ?_
      | refine rkU ?_
      | refine stp ?_
      | refine ifT ?_
      | refine ifF ?_
      | fail)
  refine aws_draws [(6, 11), (7, 12), (8, 11), (9, 12)] mixed (by kernel_rfl) ?_
  repeat' (first
      | refine rk_nil ?_
      | refine rkC ?_
      | refine rkSB ?_
      | refine rkF ?_
      | refine rkU ?_
      | ((fail_if_success (refine rkKn ?_)); refine rkP ?_ ?_ <;> (intro hq; try (have hq' := hq; simp only [hqs] at hq'))))
  refine aws_says (says_nil_at (p := 11) (o := 900) (ty := 50) (es := 4) (k := 8) rfl rfl rfl rfl (by decide) (by decide)) ?_
  refine aws_says (says_nil_at (p := 12) (o := 901) (ty := 44) (es := 2) (k := 5) rfl rfl rfl rfl (by decide) (by decide)) ?_
  repeat' (first
      | refine rnC ?_
      | refine rnSB ?_
      | refine rnG ?_
      | refine rnU ?_
      | refine rkC ?_
      | refine rkSB ?_
      | refine rkF ?_
      | refine rkU ?_
      | refine stp ?_
      | refine ifT ?_
      | refine ifF ?_
      | fail)
  refine aws_loopS [13, 42, 43, 44, 45, 46, 47, 48, 49, 50, 51, 52, 53, 54, 55, 56, 57, 58, 59, 60, 61, 62, 63, 64, 65, 66, 67, 68, 69, 70, 71, 72, 73, 74, 75, 76] [11, 12, 900, 901] (fun (x : Nat × (Nat × List Ent) × (Nat × List Dot)) => [(13, .p (.i x.1))])
    (fun x => [(11, (1, some (.box 34 [.p (.k .u64 (v.getD 0 default)), .p (.k .u64 (v.getD 1 default)), .p (.k .u64 (v.getD 2 default)), .p (.k .u64 (v.getD 3 default)), .p (.k .u64 (v.getD 4 default)), .p (.k .u64 (v.getD 5 default)), .p (.k .u64 (v.getD 6 default)), .p (.k .u64 (v.getD 7 default)), .osl 900 x.2.1.1 4 0 x.2.1.2.length]))),
      (12, (1, some (.box 79 [.p (.i o.1), .p (.i 0), .p (.i 0), .p (.i 0), .p (.k .u64 0), .osl 901 x.2.2.1 2 0 x.2.2.2.length]))),
      (900, (x.2.1.1 + 1, some (.buf 50 4 (x.2.1.2.map eR)))), (901, (x.2.2.1 + 1, some (.buf 44 2 (x.2.2.2.map dR))))])
    (fun x => x.1 ≤ l.length ∧ x.2.1.2 = stL o (l.take x.1) ∧ x.2.2.2 = (goL o (l.take x.1)).map dotE) (fun x => l.length - x.1) (0, (0, []), (0, [])) ⟨Nat.zero_le _, rfl, rfl⟩ (by exact knA) (by exact knA) ?_
  rintro ⟨i, ⟨gl, p⟩, ⟨go, q⟩⟩ β γ ⟨hi, hp, hq⟩
  simp only at hi hp hq
  dsimp only
  have hpl : p.length ≤ 1000000 := by
    have := List.length_filter_le (fun e => !goneF o e) (l.take i)
    rw [List.length_take] at this
    rw [hp]; unfold stL; omega
  have hql : q.length ≤ 1000000 := by
    have := List.length_filter_le (fun e => goneF o e) (l.take i)
    rw [List.length_take] at this
    rw [hq, List.length_map]; unfold goL; omega
  by_cases hil : i < l.length
  · have q0 : decide ((i : Int) < (l.length : Int)) = true := decide_eq_true (by omega)
    have ei : (i : Int).toNat = i := Int.toNat_natCast i
    have s1 := Cv.snocE (p := fun e => !goneF o e) hil
    have s2 := Cv.snocE (p := fun e => goneF o e) hil
    cases hg : goneF o (l.getD (i : Int).toNat default) with
    | false =>
      have q1 : (!goneF o (l.getD (i : Int).toNat default)) = true := by rw [hg]; rfl
      rw [ei] at hg
      rw [if_pos (by rw [hg]; rfl)] at s1
      rw [if_neg (by rw [hg]; simp), List.append_nil] at s2
      repeat' (first
          | refine rnC ?_
          | refine rnSB ?_
          | refine rnG ?_
          | refine rnU ?_
          | refine rkC ?_
          | refine rkSB ?_
          | refine rkF ?_
          | refine rkU ?_
          | refine stp ?_
          | refine ifT ?_
          | refine ifF ?_
          | fail)
      refine aws_draws [] mixed (by kernel_rfl) ?_
      repeat' (first
          | refine rk_nil ?_
          | refine rkC ?_
          | refine rkSB ?_
          | refine rkF ?_
          | refine rkU ?_
          | ((fail_if_success (refine rkKn ?_)); refine rkP ?_ ?_ <;> (intro hq; try (have hq' := hq; simp only [hqs] at hq'))))
      repeat' (first
          | refine rnC ?_
          | refine rnSB ?_
          | refine rnG ?_
          | refine rnU ?_
          | refine rkC ?_
          | refine rkSB ?_
          | refine rkF ?_
          | refine rkU ?_
          | refine stp ?_
          | refine ifT ?_
          | refine ifF ?_
          | fail)
      refine aws_draws [(8, 900), (10, 11)] mixed (by kernel_rfl) ?_
      repeat' (first
          | refine rk_nil ?_
          | refine rkC ?_
          | refine rkSB ?_
          | refine rkF ?_
          | refine rkU ?_
          | ((fail_if_success (refine rkKn ?_)); refine rkP ?_ ?_ <;> (intro hq; try (have hq' := hq; simp only [hqs] at hq'))))
      as_aux_lemma =>
        repeat' (first
            | refine rnC ?_
            | refine rnSB ?_
            | refine rnG ?_
            | refine rnU ?_
            | refine rkC ?_
            | refine rkSB ?_
            | refine rkF ?_
            | refine rkU ?_
            | refine stp ?_
            | refine aws_draws [] mixed (by kernel_rfl) ?_
            | refine ifT ?_
            | refine ifF ?_
            | fail)
        refine ⟨(i + 1, (gl + 1, p ++ [(_, _, _, _)]), (go, q)), _, by dsimp only; omega, ⟨by dsimp only; omega, ?_, ?_⟩, .refl, by exact frA⟩
        · dsimp only
          rw [hp, ei]; exact s1.symm
        · dsimp only
          rw [hq]; exact congrArg (List.map dotE) s2.symm
    | true =>
      have q1 : (!goneF o (l.getD (i : Int).toNat default)) = false := by rw [hg]; rfl
      rw [ei] at hg
      rw [if_neg (by rw [hg]; simp), List.append_nil] at s1
      rw [if_pos (by rw [hg])] at s2
      repeat' (first
          | refine rnC ?_
          | refine rnSB ?_
          | refine rnG ?_
          | refine rnU ?_
          | refine rkC ?_
          | refine rkSB ?_
          | refine rkF ?_
          | refine rkU ?_
          | refine stp ?_
          | refine ifT ?_
          | refine ifF ?_
          | fail)
      refine aws_draws [] mixed (by kernel_rfl) ?_
      repeat' (first
          | refine rk_nil ?_
          | refine rkC ?_
          | refine rkSB ?_
          | refine rkF ?_
          | refine rkU ?_
          | ((fail_if_success (refine rkKn ?_)); refine rkP ?_ ?_ <;> (intro hq; try (have hq' := hq; simp only [hqs] at hq'))))
      repeat' (first
          | refine rnC ?_
          | refine rnSB ?_
          | refine rnG ?_
          | refine rnU ?_
          | refine rkC ?_
          | refine rkSB ?_
          | refine rkF ?_
          | refine rkU ?_
          | refine stp ?_
          | refine ifT ?_
          | refine ifF ?_
          | fail)
      refine aws_draws [(9, 901), (11, 12)] mixed (by kernel_rfl) ?_
      repeat' (first
          | refine rk_nil ?_
          | refine rkC ?_
          | refine rkSB ?_
          | refine rkF ?_
          | refine rkU ?_
          | ((fail_if_success (refine rkKn ?_)); refine rkP ?_ ?_ <;> (intro hq; try (have hq' := hq; simp only [hqs] at hq'))))
      as_aux_lemma =>
        repeat' (first
            | refine rnC ?_
            | refine rnSB ?_
            | refine rnG ?_
            | refine rnU ?_
            | refine rkC ?_
            | refine rkSB ?_
            | refine rkF ?_
            | refine rkU ?_
            | refine stp ?_
            | refine aws_draws [] mixed (by kernel_rfl) ?_
            | refine ifT ?_
            | refine ifF ?_
            | fail)
        refine ⟨(i + 1, (gl, p), (go + 1, q ++ [(_, _)])), _, by dsimp only; omega, ⟨by dsimp only; omega, ?_, ?_⟩, .refl, by exact frA⟩
        · dsimp only
          rw [hp]; exact s1.symm
        · dsimp only
          rw [hq, ei]
          show _ = List.map dotE (List.filter _ _)
          rw [s2, List.map_append]; rfl
  · have q0 : decide ((i : Int) < (l.length : Int)) = false := decide_eq_false (by omega)
    rw [List.take_of_length_le (by omega)] at hp hq
    have hoff : offF o l = G.dotsOf q := by unfold offF liveF; rw [hq]
    have hq9 : q.length ≤ 1000000000 := by omega
    have hol : (G.dotsOf q).length ≤ 2000 := by rw [dotsOf_is]; exact List.length_take_le _ _
    · have t4 : decide (2 < o.1) = true := decide_eq_true hk
      have ha : addsF o = false := decide_eq_false (by omega)
      refine aws_says (says_frz_at (p := 12) (o := 901) (k := 5) (ds := [.p (.i o.1), .p (.i 0), .p (.i 0), .p (.i 0), .p (.k .u64 0), .p (.sl 2 (q.map dR) false)]) rfl rfl rfl rfl rfl (by simp) (by decide)) ?_
      refine aws_says (says_frz_at (p := 11) (o := 900) (k := 8) (ds := [.p (.k .u64 (v.getD 0 default)), .p (.k .u64 (v.getD 1 default)), .p (.k .u64 (v.getD 2 default)), .p (.k .u64 (v.getD 3 default)), .p (.k .u64 (v.getD 4 default)), .p (.k .u64 (v.getD 5 default)), .p (.k .u64 (v.getD 6 default)), .p (.k .u64 (v.getD 7 default)), .p (.sl 4 (p.map eR) false)]) rfl rfl rfl rfl rfl (by simp) (by decide)) ?_
      by_cases ho : (offF o l).length = 0
      · have ee : doF (v, l) nd o = (((zeroV, []), zeroE), 4) := by unfold doF; rw [if_neg (by simp [hr]), if_neg (by simp [hm]), if_neg (by simp [hn]), if_pos ha, if_pos ho]
        rw [hoff] at ho
        have t5 : decide (((G.dotsOf q).length : Int) = 0) = true := decide_eq_true (by omega)
        rw [ee]
        repeat' (first
            | refine rnC ?_
            | refine rnSB ?_
            | refine rnG ?_
            | refine rnU ?_
            | refine rkC ?_
            | refine rkSB ?_
            | refine rkF ?_
            | refine rkU ?_
            | refine stp ?_
            | refine ifT ?_
            | refine ifF ?_
            | fail)
        refine aws_draws [(2, 6), (3, 7)] mixed (by kernel_rfl) ?_
        repeat' (first
            | refine rk_nil ?_
            | refine rkC ?_
            | refine rkSB ?_
            | refine rkF ?_
            | refine rkU ?_
            | ((fail_if_success (refine rkKn ?_)); refine rkP ?_ ?_ <;> (intro hq; try (have hq' := hq; simp only [hqs] at hq'))))
        as_aux_lemma =>
          repeat' (first
              | refine rnC ?_
              | refine rnSB ?_
              | refine rnG ?_
              | refine rnU ?_
              | refine rkC ?_
              | refine rkSB ?_
              | refine rkF ?_
              | refine rkU ?_
              | refine stp ?_
              | refine aws_draws [] mixed (by kernel_rfl) ?_
              | refine ifT ?_
              | refine ifF ?_
              | fail)
          exact rcc3 rfl rfl rfl rfl rfl rfl fin9 rfl rfl rfl rfl rfl fin6 rfl finS_p rfl
      · have ee : doF (v, l) nd o = (((v, stL o l), (o.1, 0, 0, (0, 0), offF o l)), 0) := by unfold doF; rw [if_neg (by simp [hr]), if_neg (by simp [hm]), if_neg (by simp [hn]), if_pos ha, if_neg ho]
        rw [hoff] at ho
        have t5 : decide (((G.dotsOf q).length : Int) = 0) = false := decide_eq_false (by omega)
        rw [ee, hoff, ← hp]
        repeat' (first
            | refine rnC ?_
            | refine rnSB ?_
            | refine rnG ?_
            | refine rnU ?_
            | refine rkC ?_
            | refine rkSB ?_
            | refine rkF ?_
            | refine rkU ?_
            | refine stp ?_
            | refine ifT ?_
            | refine ifF ?_
            | fail)
        refine aws_draws [(2, 6), (3, 7)] mixed (by kernel_rfl) ?_
        repeat' (first
            | refine rk_nil ?_
            | refine rkC ?_
            | refine rkSB ?_
            | refine rkF ?_
            | refine rkU ?_
            | ((fail_if_success (refine rkKn ?_)); refine rkP ?_ ?_ <;> (intro hq; try (have hq' := hq; simp only [hqs] at hq'))))
        as_aux_lemma =>
          repeat' (first
              | refine rnC ?_
              | refine rnSB ?_
              | refine rnG ?_
              | refine rnU ?_
              | refine rkC ?_
              | refine rkSB ?_
              | refine rkF ?_
              | refine rkU ?_
              | refine stp ?_
              | refine aws_draws [] mixed (by kernel_rfl) ?_
              | refine ifT ?_
              | refine ifF ?_
              | fail)
          exact rcc3 rfl rfl rfl rfl rfl rfl finL_p rfl rfl rfl rfl rfl finL_p rfl finS_p rfl
end Go.Proofs.YtpmobjnaiaogbaaGreat.Cq
