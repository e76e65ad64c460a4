/- backoffs: Collect, Gaps, Whole; the reference's gaps -/
import Derived.Test.YtnmajoiafockgaaBo2
namespace Go.Proofs.Ytnmajoiafockgaa.Bo
open Go Go.RowKit Go.Aw Go.Aw.Bo
set_option linter.unusedVariables false
set_option linter.unusedSimpArgs false
set_option maxRecDepth 8000
set_option maxHeartbeats 4000000
instance (priority := high) ptrIn_fn {f c g : Nat} {pre post : List PVal} {l : List AV} : PtrIn (.s (.one (.fn f c g pre post)) :: l) c := ⟨trivial⟩
theorem collect_o (b c m t : Int) (n k : Nat) (h : rightB b c m t = true) (hn : n ≤ 1000) : OCall Try.prog 19 [.o (.fn 22 1000 k [.bx [.i n] 0] [])] (memL [(1000, (k + 1, some (boxS b c m t)))]) (ints (gapsL b c t n) false) (memL [(1000, (k + 1, none))]) := by
  refine ocall_of1 Try.func19 rfl (fun w0 F S0 M0 => ?_)
  repeat' (first
      | refine rnB ?_
      | refine rnSB ?_
      | refine rnG ?_
      | refine rnU ?_
      | ((fail_if_success (refine rnKn ?_)); refine rnP ?_ ?_ <;> (intro hq; try (have hq' := hq; simp only [hqs] at hq')))
      | refine rkB ?_
      | refine rkSB ?_
      | refine rkF ?_
      | refine rkU ?_
      | ((fail_if_success (refine rkKn ?_)); refine rkP ?_ ?_ <;> (intro hq; try (have hq' := hq; simp only [hqs] at hq')))
      | refine stp ?_
      | refine aws_draws [] mixed (by kernel_rfl) ?_
      | refine ifT ?_
      | refine ifF ?_
      | (refine ifQ ?_ ?_ <;> (try (intro hn)))
      | (refine ifB ?_ ?_ <;> (intro hq; try (have hq' := hq; simp only [hqs] at hq'))))
  exact RetO.mk (ot1 rfl rfl finS_p rfl) ⟨.drop, trivial⟩
instance {b c m t : Int} {n k d : Nat} : OC Try.prog 19 [.o (.fn 22 d k [.bx [.i n] 0] [])] [(d, (k + 1, some (boxS b c m t)))] [] (rightB b c m t = true ∧ n ≤ 1000) (ints (gapsL b c t n) false) [(d, (k + 1, none))] := ⟨fun h => (collect_o b c m t n k h.1 h.2).one d⟩
theorem gaps_w (b c m t : Int) (n : Nat) (h : rightB b c m t = true) (h1 : 1 ≤ n) (hn : n ≤ 1000) : PCall Try.prog 15 [stV b c m t, .p (.i n)] (ints (gapsL b c t n) false) := by
  refine pcall_of Try.func15 rfl (fun w0 F S0 M0 => ?_)
  have hw : (!win n 1 1000) = false := by rw [show win n 1 1000 = true from decide_eq_true (by omega)]; rfl
  have hR : (!rightB b c m t) = false := by rw [h]; rfl
  repeat' (first
      | refine rnB ?_
      | refine rnSB ?_
      | refine rnG ?_
      | refine rnU ?_
      | ((fail_if_success (refine rnKn ?_)); refine rnP ?_ ?_ <;> (intro hq; try (have hq' := hq; simp only [hqs] at hq')))
      | refine rkB ?_
      | refine rkSB ?_
      | refine rkF ?_
      | refine rkU ?_
      | ((fail_if_success (refine rkKn ?_)); refine rkP ?_ ?_ <;> (intro hq; try (have hq' := hq; simp only [hqs] at hq')))
      | refine stp ?_
      | refine aws_draws [] mixed (by kernel_rfl) ?_
      | refine ifT ?_
      | refine ifF ?_
      | (refine ifQ ?_ ?_ <;> (try (intro hn)))
      | (refine ifB ?_ ?_ <;> (intro hq; try (have hq' := hq; simp only [hqs] at hq'))))
  exact rt1 rfl rfl finS_p rfl
theorem gaps_not (b c m t n : Int) (h : rightB b c m t = false ∨ ¬ (1 ≤ n ∧ n ≤ 1000)) : PCall Try.prog 15 [stV b c m t, .p (.i n)] (ints [] false) := by
  refine pcall_of Try.func15 rfl (fun w0 F S0 M0 => ?_)
  by_cases hb : 1 ≤ n ∧ n ≤ 1000
  · have hw : (!win n 1 1000) = false := by rw [show win n 1 1000 = true from decide_eq_true hb]; rfl
    have hR : (!rightB b c m t) = true := by rw [h.resolve_right (fun q => q hb)]; rfl
    repeat' (first
        | refine rnB ?_
        | refine rnSB ?_
        | refine rnG ?_
        | refine rnU ?_
        | ((fail_if_success (refine rnKn ?_)); refine rnP ?_ ?_ <;> (intro hq; try (have hq' := hq; simp only [hqs] at hq')))
        | refine rkB ?_
        | refine rkSB ?_
        | refine rkF ?_
        | refine rkU ?_
        | ((fail_if_success (refine rkKn ?_)); refine rkP ?_ ?_ <;> (intro hq; try (have hq' := hq; simp only [hqs] at hq')))
        | refine stp ?_
        | refine aws_draws [] mixed (by kernel_rfl) ?_
        | refine ifT ?_
        | refine ifF ?_
        | (refine ifQ ?_ ?_ <;> (try (intro hn)))
        | (refine ifB ?_ ?_ <;> (intro hq; try (have hq' := hq; simp only [hqs] at hq'))))
    exact rt1 rfl rfl (.one .nil) rfl
  · have hw : (!win n 1 1000) = true := by rw [show win n 1 1000 = false from decide_eq_false hb]; rfl
    repeat' (first
        | refine rnB ?_
        | refine rnSB ?_
        | refine rnG ?_
        | refine rnU ?_
        | ((fail_if_success (refine rnKn ?_)); refine rnP ?_ ?_ <;> (intro hq; try (have hq' := hq; simp only [hqs] at hq')))
        | refine rkB ?_
        | refine rkSB ?_
        | refine rkF ?_
        | refine rkU ?_
        | ((fail_if_success (refine rkKn ?_)); refine rkP ?_ ?_ <;> (intro hq; try (have hq' := hq; simp only [hqs] at hq')))
        | refine stp ?_
        | refine aws_draws [] mixed (by kernel_rfl) ?_
        | refine ifT ?_
        | refine ifF ?_
        | (refine ifQ ?_ ?_ <;> (try (intro hn)))
        | (refine ifB ?_ ?_ <;> (intro hq; try (have hq' := hq; simp only [hqs] at hq'))))
    exact rt1 rfl rfl (.one .nil) rfl
theorem whole_l (b c m t n : Int) (l : List Int) (hl : l.length ≤ 1000) (hb : ∀ i, 0 ≤ l.getD i default ∧ l.getD i default ≤ 1048576) (hc : PCall Try.prog 15 [stV b c m t, .p (.i n)] (ints l false)) : PCall Try.prog 16 [stV b c m t, .p (.i n)] (.p (.i (sumTo l l.length))) := by
  refine pcall_of Try.func16 rfl (fun w0 F S0 M0 => ?_)
  haveI : PC Try.prog 15 [stV b c m t, .p (.i n)] True (ints l false) := ⟨fun _ => hc⟩
  repeat' (first
      | refine rnB ?_
      | refine rnSB ?_
      | refine rnG ?_
      | refine rnU ?_
      | ((fail_if_success (refine rnKn ?_)); refine rnP ?_ ?_ <;> (intro hq; try (have hq' := hq; simp only [hqs] at hq')))
      | refine rkB ?_
      | refine rkSB ?_
      | refine rkF ?_
      | refine rkU ?_
      | ((fail_if_success (refine rkKn ?_)); refine rkP ?_ ?_ <;> (intro hq; try (have hq' := hq; simp only [hqs] at hq')))
      | refine stp ?_
      | refine aws_draws [] mixed (by kernel_rfl) ?_
      | refine ifT ?_
      | refine ifF ?_
      | (refine ifQ ?_ ?_ <;> (try (intro hn)))
      | (refine ifB ?_ ?_ <;> (intro hq; try (have hq' := hq; simp only [hqs] at hq'))))
  refine aws_loopS [5, 7, 12, 13, 14, 15, 16, 17, 18, 19] [] (fun (i : Nat) => [(5, .p (.i (sumTo l i))), (12, .p (.i i))]) (fun _ => []) (fun i => i ≤ l.length) (fun i => l.length - i) 0 (Nat.zero_le _) (by exact knA) (by exact knA) ?_
  rintro i β γ hi
  have hs := sumTo_in (c := 0) hb i
  have hg := hb (i : Int).toNat
  by_cases hil : i < l.length
  · have hd : decide ((i : Int) < (l.length : Int)) = true := decide_eq_true (by omega)
    repeat' (first
        | refine rnB ?_
        | refine rnSB ?_
        | refine rnG ?_
        | refine rnU ?_
        | ((fail_if_success (refine rnKn ?_)); refine rnP ?_ ?_ <;> (intro hq; try (have hq' := hq; simp only [hqs] at hq')))
        | refine rkB ?_
        | refine rkSB ?_
        | refine rkF ?_
        | refine rkU ?_
        | ((fail_if_success (refine rkKn ?_)); refine rkP ?_ ?_ <;> (intro hq; try (have hq' := hq; simp only [hqs] at hq')))
        | refine stp ?_
        | refine aws_draws [] mixed (by kernel_rfl) ?_
        | refine ifT ?_
        | refine ifF ?_
        | (refine ifQ ?_ ?_ <;> (try (intro hn)))
        | (refine ifB ?_ ?_ <;> (intro hq; try (have hq' := hq; simp only [hqs] at hq'))))
    refine ⟨i + 1, _, by omega, by omega, .refl, ?_⟩
    rw [show sumTo l (i + 1) = sumTo l i + l.getD (i : Int).toNat default by rw [sumTo, Int.toNat_natCast]]
    exact frA
  · have hd : decide ((i : Int) < (l.length : Int)) = false := decide_eq_false (by omega)
    obtain rfl : i = l.length := by omega
    repeat' (first
        | refine rnB ?_
        | refine rnSB ?_
        | refine rnG ?_
        | refine rnU ?_
        | ((fail_if_success (refine rnKn ?_)); refine rnP ?_ ?_ <;> (intro hq; try (have hq' := hq; simp only [hqs] at hq')))
        | refine rkB ?_
        | refine rkSB ?_
        | refine rkF ?_
        | refine rkU ?_
        | ((fail_if_success (refine rkKn ?_)); refine rkP ?_ ?_ <;> (intro hq; try (have hq' := hq; simp only [hqs] at hq')))
        | refine stp ?_
        | refine aws_draws [] mixed (by kernel_rfl) ?_
        | refine ifT ?_
        | refine ifF ?_
        | (refine ifQ ?_ ?_ <;> (try (intro hn)))
        | (refine ifB ?_ ?_ <;> (intro hq; try (have hq' := hq; simp only [hqs] at hq'))))
    exact rt1 rfl rfl finS_p rfl
theorem rgaps_w (b c m t : Int) (n : Nat) (h : rightB b c m t = true) (hn : n ≤ 1000) : PCall Try.prog 17 [.p (.i b), .p (.i c), .p (.i t), .p (.i n)] (ints (gapsL b c t n) false) := by
  refine pcall_of Try.func17 rfl (fun w0 F S0 M0 => ?_)
  have hr := right_of h
  haveI : ∀ i, PC Try.prog 14 [.p (.i b), .p (.i c), .p (.i (trF t i))] True (.p (.i (gapF b c (trF t i).toNat))) := fun i => ⟨fun _ => rgap_w b c m (trF t i) (right_mk (by have := trF_in (t := t) (by omega) i; omega))⟩
  repeat' (first
      | refine rnB ?_
      | refine rnSB ?_
      | refine rnG ?_
      | refine rnU ?_
      | ((fail_if_success (refine rnKn ?_)); refine rnP ?_ ?_ <;> (intro hq; try (have hq' := hq; simp only [hqs] at hq')))
      | refine rkB ?_
      | refine rkSB ?_
      | refine rkF ?_
      | refine rkU ?_
      | ((fail_if_success (refine rkKn ?_)); refine rkP ?_ ?_ <;> (intro hq; try (have hq' := hq; simp only [hqs] at hq')))
      | refine stp ?_
      | refine aws_draws [] mixed (by kernel_rfl) ?_
      | refine ifT ?_
      | refine ifF ?_
      | (refine ifQ ?_ ?_ <;> (try (intro hn)))
      | (refine ifB ?_ ?_ <;> (intro hq; try (have hq' := hq; simp only [hqs] at hq'))))
  refine aws_says (says_nil (t := 9) (o := 900) (ty := 3) (es := 1) rfl rfl (by decide)) ?_
  refine aws_loopS [2, 9, 10, 11, 12, 13, 14, 15, 16, 17, 18, 19, 20, 21, 22, 23, 24, 25, 26] [900] (fun (x : Nat × Nat × List Int) => [(9, .o (.osl 900 x.2.1 1 0 x.2.2.length)), (10, .p (.i x.1)), (2, .p (.i (trF t x.1)))])
    (fun x => [(900, (x.2.1 + 1, some (.buf 3 1 (x.2.2.map fun v => [PVal.i v]))))]) (fun x => x.1 ≤ n ∧ x.2.2 = gapsL b c t x.1) (fun x => n - x.1) (0, 0, []) ⟨Nat.zero_le _, rfl⟩ (by rw [trF_0 (by omega)]; exact knA) (by exact knA) ?_
  rintro ⟨i, g, l⟩ β γ ⟨hi, hl⟩
  simp only at hi hl
  have hll : l.length ≤ 1000 := by rw [hl, gapsL_len]; omega
  have hti := trF_in (t := t) (by omega) i
  dsimp only
  by_cases hin : i < n
  · have hd : decide ((i : Int) < (n : Int)) = true := decide_eq_true (by omega)
    have hs := trF_succ (t := t) (by omega) i
    unfold nxF at hs
    by_cases ht : trF t i < 1073741824
    · have hd2 : decide (trF t i < 1073741824) = true := decide_eq_true ht
      rw [if_pos ht] at hs
      repeat' (first
          | refine rnB ?_
          | refine rnSB ?_
          | refine rnG ?_
          | refine rnU ?_
          | ((fail_if_success (refine rnKn ?_)); refine rnP ?_ ?_ <;> (intro hq; try (have hq' := hq; simp only [hqs] at hq')))
          | refine rkB ?_
          | refine rkSB ?_
          | refine rkF ?_
          | refine rkU ?_
          | ((fail_if_success (refine rkKn ?_)); refine rkP ?_ ?_ <;> (intro hq; try (have hq' := hq; simp only [hqs] at hq')))
          | refine stp ?_
          | refine aws_draws [] mixed (by kernel_rfl) ?_
          | refine ifT ?_
          | refine ifF ?_
          | (refine ifQ ?_ ?_ <;> (try (intro hn)))
          | (refine ifB ?_ ?_ <;> (intro hq; try (have hq' := hq; simp only [hqs] at hq'))))
      refine ⟨(i + 1, g + 1, l ++ [gapF b c (trF t i).toNat]), _, by dsimp only; omega, ⟨by dsimp only; omega, by dsimp only; rw [hl, gapsL_succ]⟩, .refl, ?_⟩
      dsimp only
      rw [hs]
      exact frA
    · have hd2 : decide (trF t i < 1073741824) = false := decide_eq_false ht
      rw [if_neg ht] at hs
      repeat' (first
          | refine rnB ?_
          | refine rnSB ?_
          | refine rnG ?_
          | refine rnU ?_
          | ((fail_if_success (refine rnKn ?_)); refine rnP ?_ ?_ <;> (intro hq; try (have hq' := hq; simp only [hqs] at hq')))
          | refine rkB ?_
          | refine rkSB ?_
          | refine rkF ?_
          | refine rkU ?_
          | ((fail_if_success (refine rkKn ?_)); refine rkP ?_ ?_ <;> (intro hq; try (have hq' := hq; simp only [hqs] at hq')))
          | refine stp ?_
          | refine aws_draws [] mixed (by kernel_rfl) ?_
          | refine ifT ?_
          | refine ifF ?_
          | (refine ifQ ?_ ?_ <;> (try (intro hn)))
          | (refine ifB ?_ ?_ <;> (intro hq; try (have hq' := hq; simp only [hqs] at hq'))))
      refine ⟨(i + 1, g + 1, l ++ [gapF b c (trF t i).toNat]), _, by dsimp only; omega, ⟨by dsimp only; omega, by dsimp only; rw [hl, gapsL_succ]⟩, .refl, ?_⟩
      dsimp only
      rw [hs]
      exact frA
  · have hd : decide ((i : Int) < (n : Int)) = false := decide_eq_false (by omega)
    obtain rfl : i = n := by omega
    subst hl
    repeat' (first
        | refine rnB ?_
        | refine rnSB ?_
        | refine rnG ?_
        | refine rnU ?_
        | ((fail_if_success (refine rnKn ?_)); refine rnP ?_ ?_ <;> (intro hq; try (have hq' := hq; simp only [hqs] at hq')))
        | refine rkB ?_
        | refine rkSB ?_
        | refine rkF ?_
        | refine rkU ?_
        | ((fail_if_success (refine rkKn ?_)); refine rkP ?_ ?_ <;> (intro hq; try (have hq' := hq; simp only [hqs] at hq')))
        | refine stp ?_
        | refine aws_draws [] mixed (by kernel_rfl) ?_
        | refine ifT ?_
        | refine ifF ?_
        | (refine ifQ ?_ ?_ <;> (try (intro hn)))
        | (refine ifB ?_ ?_ <;> (intro hq; try (have hq' := hq; simp only [hqs] at hq'))))
    exact rt1 rfl rfl (.one (finC_map rfl rfl rfl rfl)) rfl
end Go.Proofs.Ytnmajoiafockgaa.Bo
