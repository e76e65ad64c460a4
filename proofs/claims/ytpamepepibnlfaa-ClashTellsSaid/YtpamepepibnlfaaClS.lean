/- clashes, the reference: the walk -/
import Derived.Test.YtpamepepibnlfaaClP
import Derived.Test.YtpamepepibnlfaaTr6
import Derived.Test.YtpamepepibnlfaaTr4
namespace Go.Proofs.Ytpamepepibnlfaa.Cl
open Go Go.RowKit Go.Aw Go.Aw.Sha Go.Aw.Tree Go.Aw.Clash Go.Proofs.Ytpamepepibnlfaa.Sh Go.Proofs.Ytpamepepibnlfaa.Tr
set_option linter.unusedVariables false
set_option linter.unusedSimpArgs false
set_option maxRecDepth 8000
attribute [local irreducible] sum
set_option maxHeartbeats 4000000
/-- does a walk come to a place? -/
def comesQ (T U : List Nat) (p : Int) : Bool := if 5 ≤ p ∧ p ≤ 20 then un T U p && (un T U ((p - 1) / 4) && un T U 0) else if 1 ≤ p ∧ p ≤ 4 then un T U p && un T U 0 else if p = 0 then un T U 0 else true
theorem comesQ_neg {T U : List Nat} {p : Int} (h : p < 0) : comesQ T U p = true := by unfold comesQ; rw [if_neg (by omega), if_neg (by omega), if_neg (by omega)]
theorem comesQ_step {T U : List Nat} {p : Int} (h : 0 ≤ p ∧ p ≤ 20) : comesQ T U p = (un T U p && comesQ T U (upF p)) := by
  unfold upF
  by_cases h5 : 5 ≤ p
  · rw [if_pos (by omega)]
    unfold comesQ
    rw [if_pos (by omega), if_neg (by omega), if_pos (by omega)]
  · by_cases h1 : 1 ≤ p
    · rw [if_pos (by omega), show (p - 1) / 4 = 0 by omega]
      unfold comesQ
      rw [if_neg (by omega), if_pos (by omega), if_neg (by omega), if_neg (by omega), if_pos rfl]
    · rw [if_neg (by omega), show p = 0 by omega]
      unfold comesQ
      rw [if_neg (by omega), if_neg (by omega), if_pos rfl, if_neg (by omega), if_neg (by omega), if_neg (by omega), Bool.and_true]
theorem comesQ_leaf {T U : List Nat} {i : Nat} (h : i < 16) : comesQ T U (5 + (i : Int)) = comesL T U i := by
  unfold comesQ comesL
  rw [if_pos (by omega), show ((5 : Int) + i - 1) / 4 = (4 + i) / 4 by omega]
  cases un T U 0 <;> cases un T U ((4 + (i : Int)) / 4) <;> cases un T U (5 + (i : Int)) <;> rfl
theorem comes_r (T U : List Nat) (q : Int) (h : T.length = 672 ∧ U.length = 672 ∧ 0 ≤ q ∧ q ≤ 20) : PCall Try.prog 95 [tv T, tv U, .p (.i q)] (.p (.b (comesQ T U q))) := by
  refine pcall_of Try.func95 rfl (fun w0 F S0 M0 => ?_)
  obtain ⟨hT, hU, hq⟩ := h
  repeat' (first
      | refine rnB ?_
      | refine rnSB ?_
      | refine rnG ?_
      | refine rnU ?_
      | ((fail_if_success (refine rnKn ?_)); refine rnP ?_ ?_ <;> (intro hq; try (have hq' := hq; simp only [hqs] at hq')))
      | refine rkB ?_
      | refine rkSB ?_
      | refine rkF ?_
      | refine rkU ?_
      | ((fail_if_success (refine rkKn ?_)); refine rkP ?_ ?_ <;> (intro hq; try (have hq' := hq; simp only [hqs] at hq')))
      | refine stp ?_
      | refine aws_draws [] mixed (by kernel_rfl) ?_
      | refine ifT ?_
      | refine ifF ?_
      | (refine ifQ ?_ ?_ <;> (try (intro hn)))
      | (refine ifB ?_ ?_ <;> (intro hq; try (have hq' := hq; simp only [hqs] at hq'))))
  refine aws_loopS [6, 7, 9, 10, 11, 12, 13, 14, 15, 16, 17, 18, 19] [] (fun (p : Int) => [(7, .p (.i p))]) (fun _ => []) (fun p => p ≤ 20 ∧ comesQ T U p = comesQ T U q) (fun p => (p + 1).toNat) q ⟨hq.2, rfl⟩ (by exact knA) (by exact knA) ?_
  rintro p β γ ⟨hp, he⟩
  by_cases h0 : 0 ≤ p
  · have hd : decide (0 ≤ p) = true := decide_eq_true h0
    have r1 : (rowOf 32 T p.toNat).length = 32 := row_len hT (by omega)
    have r2 : (rowOf 32 U p.toNat).length = 32 := row_len hU (by omega)
    rw [comesQ_step ⟨h0, hp⟩] at he
    by_cases hr : rowOf 32 T p.toNat = rowOf 32 U p.toNat
    · have hd2 : decide (rowOf 32 T p.toNat = rowOf 32 U p.toNat) = true := decide_eq_true hr
      have hu : un T U p = false := decide_eq_false fun k => k hr
      rw [hu, Bool.false_and] at he
      rw [← he]
      repeat' (first
          | refine rnB ?_
          | refine rnSB ?_
          | refine rnG ?_
          | refine rnU ?_
          | ((fail_if_success (refine rnKn ?_)); refine rnP ?_ ?_ <;> (intro hq; try (have hq' := hq; simp only [hqs] at hq')))
          | refine rkB ?_
          | refine rkSB ?_
          | refine rkF ?_
          | refine rkU ?_
          | ((fail_if_success (refine rkKn ?_)); refine rkP ?_ ?_ <;> (intro hq; try (have hq' := hq; simp only [hqs] at hq')))
          | refine stp ?_
          | refine aws_draws [] mixed (by kernel_rfl) ?_
          | refine ifT ?_
          | refine ifF ?_
          | (refine ifQ ?_ ?_ <;> (try (intro hn)))
          | (refine ifB ?_ ?_ <;> (intro hq; try (have hq' := hq; simp only [hqs] at hq'))))
      exact rt1 rfl rfl finS_p rfl
    · have hd2 : decide (rowOf 32 T p.toNat = rowOf 32 U p.toNat) = false := decide_eq_false hr
      have hu : un T U p = true := decide_eq_true hr
      rw [hu, Bool.true_and] at he
      have hup := upF_dec (p := p) (by omega)
      have hul := upF_le (p := p)
      repeat' (first
          | refine rnB ?_
          | refine rnSB ?_
          | refine rnG ?_
          | refine rnU ?_
          | ((fail_if_success (refine rnKn ?_)); refine rnP ?_ ?_ <;> (intro hq; try (have hq' := hq; simp only [hqs] at hq')))
          | refine rkB ?_
          | refine rkSB ?_
          | refine rkF ?_
          | refine rkU ?_
          | ((fail_if_success (refine rkKn ?_)); refine rkP ?_ ?_ <;> (intro hq; try (have hq' := hq; simp only [hqs] at hq')))
          | refine stp ?_
          | refine aws_draws [] mixed (by kernel_rfl) ?_
          | refine ifT ?_
          | refine ifF ?_
          | (refine ifQ ?_ ?_ <;> (try (intro hn)))
          | (refine ifB ?_ ?_ <;> (intro hq; try (have hq' := hq; simp only [hqs] at hq'))))
      exact ⟨upF p, _, hup, ⟨by omega, he⟩, .refl, by exact frA⟩
  · have hd : decide (0 ≤ p) = false := decide_eq_false h0
    rw [comesQ_neg (by omega)] at he
    rw [← he]
    repeat' (first
        | refine rnB ?_
        | refine rnSB ?_
        | refine rnG ?_
        | refine rnU ?_
        | ((fail_if_success (refine rnKn ?_)); refine rnP ?_ ?_ <;> (intro hq; try (have hq' := hq; simp only [hqs] at hq')))
        | refine rkB ?_
        | refine rkSB ?_
        | refine rkF ?_
        | refine rkU ?_
        | ((fail_if_success (refine rkKn ?_)); refine rkP ?_ ?_ <;> (intro hq; try (have hq' := hq; simp only [hqs] at hq')))
        | refine stp ?_
        | refine aws_draws [] mixed (by kernel_rfl) ?_
        | refine ifT ?_
        | refine ifF ?_
        | (refine ifQ ?_ ?_ <;> (try (intro hn)))
        | (refine ifB ?_ ?_ <;> (intro hq; try (have hq' := hq; simp only [hqs] at hq'))))
    exact rt1 rfl rfl finS_p rfl
instance {T U : List Nat} {q : Int} : PC Try.prog 95 [tv T, tv U, .p (.i q)] (T.length = 672 ∧ U.length = 672 ∧ 0 ≤ q ∧ q ≤ 20) (.p (.b (comesQ T U q))) := ⟨comes_r T U q⟩
def dfO (T U : List Nat) : Nat → List Int
  | 0 => []
  | p + 1 => dfO T U p ++ (if comesQ T U p = true ∧ 4 < p then [(p : Int) - 5] else [])
def dfK (T U : List Nat) : Nat → Int
  | 0 => 1
  | p + 1 => dfK T U p + (if comesQ T U p = true then ((kidsF p).length : Int) else 0)
def dfV (T U : List Nat) : Nat → List Bool
  | 0 => [false, false, false]
  | p + 1 => if comesQ T U p = true then (dfV T U p).set (levelF p).toNat true else dfV T U p
def cntV (bs : List Bool) : Nat → Int
  | 0 => 0
  | i + 1 => cntV bs i + (if bs.getD i default = true then 1 else 0)
theorem dfV_len {T U : List Nat} : ∀ p, (dfV T U p).length = 3
  | 0 => rfl
  | p + 1 => by rw [dfV]; split
                · rw [List.length_set]; exact dfV_len p
                · exact dfV_len p
theorem dfK_in {T U : List Nat} : ∀ p, 1 ≤ dfK T U p ∧ dfK T U p ≤ 1 + 4 * p
  | 0 => ⟨Int.le_refl _, Int.le_refl _⟩
  | p + 1 => by
    have := dfK_in (T := T) (U := U) p
    have h2 := kidsF_le p
    rw [dfK]; split <;> omega
theorem dfO_len {T U : List Nat} : ∀ p, (dfO T U p).length ≤ p
  | 0 => Nat.le_refl _
  | p + 1 => by
    have := dfO_len (T := T) (U := U) p
    rw [dfO, List.length_append]; split <;> simp <;> omega
theorem cntV_in {bs : List Bool} : ∀ i, 0 ≤ cntV bs i ∧ cntV bs i ≤ i
  | 0 => ⟨Int.le_refl _, Int.le_refl _⟩
  | i + 1 => by
    have := cntV_in (bs := bs) i
    rw [cntV]; split <;> omega
theorem dfO_low {T U : List Nat} : ∀ p, p ≤ 5 → dfO T U p = []
  | 0, _ => rfl
  | p + 1, h => by rw [dfO, dfO_low p (by omega), if_neg (by omega)]; rfl
theorem dfO_high {T U : List Nat} : ∀ n, n ≤ 16 → dfO T U (5 + n) = ((List.range n).filter (comesL T U)).map fun i : Nat => (i : Int)
  | 0, _ => dfO_low 5 (by omega)
  | n + 1, h => by
    rw [show 5 + (n + 1) = (5 + n) + 1 by omega, dfO, dfO_high n (by omega), List.range_succ, List.filter_append, List.map_append]
    have e : comesQ T U ((5 + n : Nat) : Int) = comesL T U n := by rw [← comesQ_leaf (by omega)]; congr 1
    rw [e]
    cases hc : comesL T U n with
    | false => simp [hc]
    | true =>
      rw [if_pos ⟨rfl, by omega⟩, show (((5 + n : Nat) : Int) - 5) = (n : Int) by omega]
      simp [hc]
theorem dfO_is {T U : List Nat} : dfO T U 21 = comeList T U := dfO_high 16 (by omega)
theorem diff_r (T U : List Nat) (h : T.length = 672 ∧ U.length = 672) : PCall Try.prog 55 [tv T, tv U] (.tup [.one (.p (.sl 1 ((dfO T U 21).map fun n => [PVal.i n]) false)), .one (.p (.i (dfK T U 21))), .one (.p (.i (cntV (dfV T U 21) 3)))]) := by
  refine pcall_of Try.func55 rfl (fun w0 F S0 M0 => ?_)
  obtain ⟨hT, hU⟩ := h
  repeat' (first
      | refine rnB ?_
      | refine rnSB ?_
      | refine rnG ?_
      | refine rnU ?_
      | ((fail_if_success (refine rnKn ?_)); refine rnP ?_ ?_ <;> (intro hq; try (have hq' := hq; simp only [hqs] at hq')))
      | refine rkB ?_
      | refine rkSB ?_
      | refine rkF ?_
      | refine rkU ?_
      | ((fail_if_success (refine rkKn ?_)); refine rkP ?_ ?_ <;> (intro hq; try (have hq' := hq; simp only [hqs] at hq')))
      | refine stp ?_
      | refine aws_draws [] mixed (by kernel_rfl) ?_
      | refine ifT ?_
      | refine ifF ?_
      | (refine ifQ ?_ ?_ <;> (try (intro hn)))
      | (refine ifB ?_ ?_ <;> (intro hq; try (have hq' := hq; simp only [hqs] at hq'))))
  refine aws_says (says_nil (t := 7) (o := 900) (ty := 3) (es := 1) rfl rfl (by decide)) ?_
  refine aws_loopS [7, 8, 10, 13, 14, 15, 16, 17, 18, 19, 20, 21, 22, 23, 24, 25, 26, 27, 28, 29, 30, 31, 32, 33, 34, 35, 36] [900, 9] (fun (x : Nat × Nat × List Int) => [(7, .o (.osl 900 x.2.1 1 0 x.2.2.length)), (8, .p (.i (dfK T U x.1))), (10, .p (.i x.1))])
    (fun x => [(900, (x.2.1 + 1, some (.buf 3 1 (x.2.2.map fun n => [PVal.i n])))), (9, (1, some (.box 145 ((dfV T U x.1).map fun b => .p (.b b)))))])
    (fun x => x.1 ≤ 21 ∧ x.2.2 = dfO T U x.1) (fun x => 21 - x.1) (0, 0, []) ⟨Nat.zero_le _, rfl⟩ (by exact knA) (by exact knA) ?_
  rintro ⟨p, g, out⟩ β γ ⟨hp, hout⟩
  simp only at hp hout
  have hlv := dfV_len (T := T) (U := U) p
  have hk := dfK_in (T := T) (U := U) p
  have hol := dfO_len (T := T) (U := U) p
  have hll := levelF_in p
  dsimp only
  by_cases h21 : p < 21
  · have hd : decide ((p : Int) < 21) = true := decide_eq_true (by omega)
    have hlv0 : 0 ≤ levelF p := by
      unfold levelF
      repeat' split
      all_goals omega
    cases hc : comesQ T U p with
    | false =>
      have hnc : (!comesQ T U p) = true := by rw [hc]; rfl
      have hk1 : dfK T U (p + 1) = dfK T U p := by rw [dfK, hc]; simp
      have hv1 : dfV T U (p + 1) = dfV T U p := by rw [dfV, hc]; simp
      have ho1 : dfO T U (p + 1) = dfO T U p := by rw [dfO, hc]; simp
      repeat' (first
          | refine rnB ?_
          | refine rnSB ?_
          | refine rnG ?_
          | refine rnU ?_
          | ((fail_if_success (refine rnKn ?_)); refine rnP ?_ ?_ <;> (intro hq; try (have hq' := hq; simp only [hqs] at hq')))
          | refine rkB ?_
          | refine rkSB ?_
          | refine rkF ?_
          | refine rkU ?_
          | ((fail_if_success (refine rkKn ?_)); refine rkP ?_ ?_ <;> (intro hq; try (have hq' := hq; simp only [hqs] at hq')))
          | refine stp ?_
          | refine aws_draws [] mixed (by kernel_rfl) ?_
          | refine ifT ?_
          | refine ifF ?_
          | (refine ifQ ?_ ?_ <;> (try (intro hn)))
          | (refine ifB ?_ ?_ <;> (intro hq; try (have hq' := hq; simp only [hqs] at hq'))))
      refine ⟨(p + 1, g, out), _, by dsimp only; omega, ⟨by dsimp only; omega, by dsimp only; rw [ho1]; exact hout⟩, .refl, ?_⟩
      dsimp only
      rw [hk1, hv1]
      exact frA
    | true =>
      have hnc : (!comesQ T U p) = false := by rw [hc]; rfl
      have hk1 : dfK T U (p + 1) = dfK T U p + ((kidsF p).length : Int) := by rw [dfK, hc, if_pos rfl]
      have hv1 : dfV T U (p + 1) = (dfV T U p).set (levelF p).toNat true := by rw [dfV, hc, if_pos rfl]
      have hkl := kidsF_le p
      have hol2 : out.length ≤ 21 := by rw [hout]; omega
      by_cases h4 : 4 < p
      · have hd4 : decide (4 < (p : Int)) = true := decide_eq_true (by omega)
        have ho1 : dfO T U (p + 1) = dfO T U p ++ [(p : Int) - 5] := by rw [dfO, hc, if_pos ⟨rfl, h4⟩]
        repeat' (first
            | refine rnB ?_
            | refine rnSB ?_
            | refine rnG ?_
            | refine rnU ?_
            | ((fail_if_success (refine rnKn ?_)); refine rnP ?_ ?_ <;> (intro hq; try (have hq' := hq; simp only [hqs] at hq')))
            | refine rkB ?_
            | refine rkSB ?_
            | refine rkF ?_
            | refine rkU ?_
            | ((fail_if_success (refine rkKn ?_)); refine rkP ?_ ?_ <;> (intro hq; try (have hq' := hq; simp only [hqs] at hq')))
            | refine stp ?_
            | refine aws_draws [] mixed (by kernel_rfl) ?_
            | refine ifT ?_
            | refine ifF ?_
            | (refine ifQ ?_ ?_ <;> (try (intro hn)))
            | (refine ifB ?_ ?_ <;> (intro hq; try (have hq' := hq; simp only [hqs] at hq'))))
        refine ⟨(p + 1, g + 1, out ++ [(p : Int) - 5]), _, by dsimp only; omega, ⟨by dsimp only; omega, by dsimp only; rw [ho1, hout]⟩, .refl, ?_⟩
        dsimp only
        rw [hk1, hv1]
        exact frA
      · have hd4 : decide (4 < (p : Int)) = false := decide_eq_false (by omega)
        have ho1 : dfO T U (p + 1) = dfO T U p := by rw [dfO, if_neg (by omega)]; simp
        repeat' (first
            | refine rnB ?_
            | refine rnSB ?_
            | refine rnG ?_
            | refine rnU ?_
            | ((fail_if_success (refine rnKn ?_)); refine rnP ?_ ?_ <;> (intro hq; try (have hq' := hq; simp only [hqs] at hq')))
            | refine rkB ?_
            | refine rkSB ?_
            | refine rkF ?_
            | refine rkU ?_
            | ((fail_if_success (refine rkKn ?_)); refine rkP ?_ ?_ <;> (intro hq; try (have hq' := hq; simp only [hqs] at hq')))
            | refine stp ?_
            | refine aws_draws [] mixed (by kernel_rfl) ?_
            | refine ifT ?_
            | refine ifF ?_
            | (refine ifQ ?_ ?_ <;> (try (intro hn)))
            | (refine ifB ?_ ?_ <;> (intro hq; try (have hq' := hq; simp only [hqs] at hq'))))
        refine ⟨(p + 1, g, out), _, by dsimp only; omega, ⟨by dsimp only; omega, by dsimp only; rw [ho1]; exact hout⟩, .refl, ?_⟩
        dsimp only
        rw [hk1, hv1]
        exact frA
  · have hd : decide ((p : Int) < 21) = false := decide_eq_false (by omega)
    obtain rfl : p = 21 := by omega
    generalize dfV T U 21 = bs at hlv ⊢
    generalize dfK T U 21 = kk at hk ⊢
    rw [← hout]
    repeat' (first
        | refine rnB ?_
        | refine rnSB ?_
        | refine rnG ?_
        | refine rnU ?_
        | ((fail_if_success (refine rnKn ?_)); refine rnP ?_ ?_ <;> (intro hq; try (have hq' := hq; simp only [hqs] at hq')))
        | refine rkB ?_
        | refine rkSB ?_
        | refine rkF ?_
        | refine rkU ?_
        | ((fail_if_success (refine rkKn ?_)); refine rkP ?_ ?_ <;> (intro hq; try (have hq' := hq; simp only [hqs] at hq')))
        | refine stp ?_
        | refine aws_draws [] mixed (by kernel_rfl) ?_
        | refine ifT ?_
        | refine ifF ?_
        | (refine ifQ ?_ ?_ <;> (try (intro hn)))
        | (refine ifB ?_ ?_ <;> (intro hq; try (have hq' := hq; simp only [hqs] at hq'))))
    refine aws_loopS [11, 12, 37, 38, 39, 40, 41, 42, 43, 44, 45] [] (fun (i : Nat) => [(11, .p (.i (cntV bs i))), (12, .p (.i i))]) (fun _ => []) (fun i => i ≤ 3) (fun i => 3 - i) 0 (Nat.zero_le _) (by exact knA) (by exact knA) ?_
    rintro i β γ hi
    have hcn := cntV_in (bs := bs) i
    by_cases h3 : i < 3
    · have hd3 : decide ((i : Int) < 3) = true := decide_eq_true (by omega)
      cases hb : bs.getD i default with
      | true =>
        have hc1 : cntV bs (i + 1) = cntV bs i + 1 := by rw [cntV, if_pos hb]
        have hb' : bs.getD (i : Int).toNat default = true := by rw [Int.toNat_natCast]; exact hb
        repeat' (first
            | refine rnB ?_
            | refine rnSB ?_
            | refine rnG ?_
            | refine rnU ?_
            | ((fail_if_success (refine rnKn ?_)); refine rnP ?_ ?_ <;> (intro hq; try (have hq' := hq; simp only [hqs] at hq')))
            | refine rkB ?_
            | refine rkSB ?_
            | refine rkF ?_
            | refine rkU ?_
            | ((fail_if_success (refine rkKn ?_)); refine rkP ?_ ?_ <;> (intro hq; try (have hq' := hq; simp only [hqs] at hq')))
            | refine stp ?_
            | refine aws_draws [] mixed (by kernel_rfl) ?_
            | refine ifT ?_
            | refine ifF ?_
            | (refine ifQ ?_ ?_ <;> (try (intro hn)))
            | (refine ifB ?_ ?_ <;> (intro hq; try (have hq' := hq; simp only [hqs] at hq'))))
        refine ⟨i + 1, _, by omega, by omega, .refl, ?_⟩
        rw [hc1]
        exact frA
      | false =>
        have hc1 : cntV bs (i + 1) = cntV bs i := by rw [cntV, hb]; simp
        have hb' : bs.getD (i : Int).toNat default = false := by rw [Int.toNat_natCast]; exact hb
        repeat' (first
            | refine rnB ?_
            | refine rnSB ?_
            | refine rnG ?_
            | refine rnU ?_
            | ((fail_if_success (refine rnKn ?_)); refine rnP ?_ ?_ <;> (intro hq; try (have hq' := hq; simp only [hqs] at hq')))
            | refine rkB ?_
            | refine rkSB ?_
            | refine rkF ?_
            | refine rkU ?_
            | ((fail_if_success (refine rkKn ?_)); refine rkP ?_ ?_ <;> (intro hq; try (have hq' := hq; simp only [hqs] at hq')))
            | refine stp ?_
            | refine aws_draws [] mixed (by kernel_rfl) ?_
            | refine ifT ?_
            | refine ifF ?_
            | (refine ifQ ?_ ?_ <;> (try (intro hn)))
            | (refine ifB ?_ ?_ <;> (intro hq; try (have hq' := hq; simp only [hqs] at hq'))))
        refine ⟨i + 1, _, by omega, by omega, .refl, ?_⟩
        rw [hc1]
        exact frA
    · have hd3 : decide ((i : Int) < 3) = false := decide_eq_false (by omega)
      obtain rfl : i = 3 := by omega
      repeat' (first
          | refine rnB ?_
          | refine rnSB ?_
          | refine rnG ?_
          | refine rnU ?_
          | ((fail_if_success (refine rnKn ?_)); refine rnP ?_ ?_ <;> (intro hq; try (have hq' := hq; simp only [hqs] at hq')))
          | refine rkB ?_
          | refine rkSB ?_
          | refine rkF ?_
          | refine rkU ?_
          | ((fail_if_success (refine rkKn ?_)); refine rkP ?_ ?_ <;> (intro hq; try (have hq' := hq; simp only [hqs] at hq')))
          | refine stp ?_
          | refine aws_draws [] mixed (by kernel_rfl) ?_
          | refine ifT ?_
          | refine ifF ?_
          | (refine ifQ ?_ ?_ <;> (try (intro hn)))
          | (refine ifB ?_ ?_ <;> (intro hq; try (have hq' := hq; simp only [hqs] at hq'))))
      exact rt3 rfl rfl (.one (finC_map rfl rfl rfl rfl)) rfl finS_p rfl finS_p rfl
instance {T U : List Nat} : PC Try.prog 55 [tv T, tv U] (T.length = 672 ∧ U.length = 672) (.tup [.one (.p (.sl 1 ((dfO T U 21).map fun n => [PVal.i n]) false)), .one (.p (.i (dfK T U 21))), .one (.p (.i (cntV (dfV T U 21) 3)))]) := ⟨diff_r T U⟩
end Go.Proofs.Ytpamepepibnlfaa.Cl
