/- clashes: Exact; clashes: is there one at a place?; Clashes in plain Lean: the laws. Nothing here speaks of a program. -/
import Derived.Test.YtclcfjejpogdlaaGreatCS41
import Derived.Test.YtclcfjejpogdlaaGreatCS38
namespace Go.Proofs.YtclcfjejpogdlaaGreat.Cl
open Go Go.RowKit Go.Aw Go.Aw.Sha Go.Aw.Tree Go.Aw.Clash Go.Proofs.YtclcfjejpogdlaaGreat.Sh Go.Proofs.YtclcfjejpogdlaaGreat.Tr
set_option linter.unusedVariables false
set_option linter.unusedSimpArgs false
set_option maxRecDepth 8000
attribute [local irreducible] sum
set_option maxHeartbeats 4000000
def okT (ls : List (List Nat)) : Prop := ∀ b ∈ ls, okB b
theorem okT_get {ls : List (List Nat)} (h : okT ls) (i : Nat) : okB (ls.getD i default) := by
  rw [List.getD_eq_getElem?_getD]
  cases hx : ls[i]? with
  | none => exact okB.nil
  | some x => exact h x (List.mem_of_getElem? hx)
/-- is each of the first n leaves in l just when its texts are unlike? -/
def exTo (ls ms : List (List Nat)) (l : List Int) (n : Nat) : Prop := ∀ i, i < n → decide ((i : Int) ∈ l) ≠ decide (ls.getD i default = ms.getD i default)
instance {ls ms : List (List Nat)} {l : List Int} {n : Nat} : Decidable (exTo ls ms l n) := by unfold exTo; infer_instance
theorem exTo_succ {ls ms : List (List Nat)} {l : List Int} {n : Nat} (h : exTo ls ms l n) (h1 : decide ((n : Int) ∈ l) ≠ decide (ls.getD n default = ms.getD n default)) : exTo ls ms l (n + 1) := fun i hi => by
  by_cases e : i = n
  · subst e; exact h1
  · exact h i (by omega)
theorem exact_w (ls ms : List (List Nat)) (h : few ls ∧ few ms ∧ okT ls ∧ okT ms) : PCall Tryz.prog 79 [txs ls, txs ms] (.p (.b (decide (exTo ls ms (leavesL (walkF (ofF ls) (ofF ms)).1) 16)))) := by
  refine pcall_of Tryz.func79 rfl (fun w0 F S0 M0 => ?_)
  obtain ⟨hl, hm, ol, om⟩ := h
  have hl16 := hl.1
  have hm16 := hm.1
  have hof := ofF_len ls
  have hog := ofF_len ms
  have hwl : (leavesL (walkF (ofF ls) (ofF ms)).1).length ≤ 1000 := by
    have h1 := leavesL_le (walkF (ofF ls) (ofF ms)).1
    have h2 := walkF_len (T := ofF ls) (U := ofF ms)
    omega
  repeat' (first | refine rnB ?_ | refine rnSB ?_ | refine rnG ?_ | refine rnU ?_ | ((fail_if_success (refine rnKn ?_)); refine rnP ?_ ?_ <;> (intro hq; try (have hq' := hq; simp only [hqs] at hq'))) | refine rkB ?_ | refine rkSB ?_ | refine rkF ?_ | refine rkU ?_ | ((fail_if_success (refine rkKn ?_)); refine rkP ?_ ?_ <;> (intro hq; try (have hq' := hq; simp only [hqs] at hq'))) | refine stp ?_ | refine aws_draws [] mixed (by kernel_rfl) ?_ | refine ifT ?_ | refine ifF ?_ | (refine ifQ ?_ ?_ <;> (try (intro hn))) | (refine ifB ?_ ?_ <;> (intro hq; try (have hq' := hq; simp only [hqs] at hq'))))
  refine aws_loopS [4, 7, 16, 17, 18, 19, 20, 21, 22, 23, 24, 25, 26, 27, 28, 29, 30] [] (fun (i : Nat) => [(16, .p (.i i))]) (fun _ => []) (fun i => i ≤ 16 ∧ exTo ls ms (leavesL (walkF (ofF ls) (ofF ms)).1) i) (fun i => 16 - i) 0 ⟨Nat.zero_le _, fun i hi => absurd hi (Nat.not_lt_zero _)⟩ (by exact knA) (by exact knA) ?_
  rintro i β γ ⟨hi, hx⟩
  generalize leavesL (walkF (ofF ls) (ofF ms)).1 = l at *
  have o1 := okT_get ol (i : Int).toNat
  have o2 := okT_get om (i : Int).toNat
  by_cases h16 : i < 16
  · have hlt : decide ((i : Int) < 16) = true := decide_eq_true (by omega)
    by_cases hv : decide ((i : Int) ∈ l) = decide (ls.getD (i : Int).toNat default = ms.getD (i : Int).toNat default)
    · have hd : (decide ((i : Int) ∈ l) == decide (ls.getD (i : Int).toNat default = ms.getD (i : Int).toNat default)) = true := by rw [hv]; simp
      repeat' (first | refine rnB ?_ | refine rnSB ?_ | refine rnG ?_ | refine rnU ?_ | ((fail_if_success (refine rnKn ?_)); refine rnP ?_ ?_ <;> (intro hq; try (have hq' := hq; simp only [hqs] at hq'))) | refine rkB ?_ | refine rkSB ?_ | refine rkF ?_ | refine rkU ?_ | ((fail_if_success (refine rkKn ?_)); refine rkP ?_ ?_ <;> (intro hq; try (have hq' := hq; simp only [hqs] at hq'))) | refine stp ?_ | refine aws_draws [] mixed (by kernel_rfl) ?_ | refine ifT ?_ | refine ifF ?_ | (refine ifQ ?_ ?_ <;> (try (intro hn))) | (refine ifB ?_ ?_ <;> (intro hq; try (have hq' := hq; simp only [hqs] at hq'))))
      refine rt1 rfl rfl finS_p (rb ?_)
      rw [Int.toNat_natCast] at hv
      exact decide_eq_false fun q => q i h16 hv
    · have hd : (decide ((i : Int) ∈ l) == decide (ls.getD (i : Int).toNat default = ms.getD (i : Int).toNat default)) = false := by simpa using hv
      repeat' (first | refine rnB ?_ | refine rnSB ?_ | refine rnG ?_ | refine rnU ?_ | ((fail_if_success (refine rnKn ?_)); refine rnP ?_ ?_ <;> (intro hq; try (have hq' := hq; simp only [hqs] at hq'))) | refine rkB ?_ | refine rkSB ?_ | refine rkF ?_ | refine rkU ?_ | ((fail_if_success (refine rkKn ?_)); refine rkP ?_ ?_ <;> (intro hq; try (have hq' := hq; simp only [hqs] at hq'))) | refine stp ?_ | refine aws_draws [] mixed (by kernel_rfl) ?_ | refine ifT ?_ | refine ifF ?_ | (refine ifQ ?_ ?_ <;> (try (intro hn))) | (refine ifB ?_ ?_ <;> (intro hq; try (have hq' := hq; simp only [hqs] at hq'))))
      rw [Int.toNat_natCast] at hv
      exact ⟨i + 1, _, by omega, ⟨by omega, exTo_succ hx hv⟩, .refl, by exact frA⟩
  · have hlt : decide ((i : Int) < 16) = false := decide_eq_false (by omega)
    repeat' (first | refine rnB ?_ | refine rnSB ?_ | refine rnG ?_ | refine rnU ?_ | ((fail_if_success (refine rnKn ?_)); refine rnP ?_ ?_ <;> (intro hq; try (have hq' := hq; simp only [hqs] at hq'))) | refine rkB ?_ | refine rkSB ?_ | refine rkF ?_ | refine rkU ?_ | ((fail_if_success (refine rkKn ?_)); refine rkP ?_ ?_ <;> (intro hq; try (have hq' := hq; simp only [hqs] at hq'))) | refine stp ?_ | refine aws_draws [] mixed (by kernel_rfl) ?_ | refine ifT ?_ | refine ifF ?_ | (refine ifQ ?_ ?_ <;> (try (intro hn))) | (refine ifB ?_ ?_ <;> (intro hq; try (have hq' := hq; simp only [hqs] at hq'))))
    refine rt1 rfl rfl finS_p (rb ?_)
    rw [show i = 16 by omega] at hx
    exact decide_eq_true hx
end Go.Proofs.YtclcfjejpogdlaaGreat.Cl
namespace Go.Proofs.YtclcfjejpogdlaaGreat.Cl
open Go Go.RowKit Go.Aw Go.Aw.Sha Go.Aw.Tree Go.Aw.Clash Go.Proofs.YtclcfjejpogdlaaGreat.Sh Go.Proofs.YtclcfjejpogdlaaGreat.Tr
set_option linter.unusedVariables false
set_option linter.unusedSimpArgs false
set_option maxRecDepth 8000
attribute [local irreducible] sum
set_option maxHeartbeats 4000000
abbrev tbx (T : List Nat) : AV := .p (.bx (T.map fun n : Nat => PVal.k .u8 (n : Int)) 0)
abbrev lbx (ls : List (List Nat)) : AV := .p (.bx (ls.map fun b => bytesP b false) 0)
theorem at1_w (ls ms : List (List Nat)) (T U : List Nat) (p : Int) (h : few ls ∧ few ms ∧ T.length = 672 ∧ U.length = 672 ∧ okB (madeF ls T p) ∧ okB (madeF ms U p) ∧ 0 ≤ p ∧ p < 21) : PCall Tryz.prog 171 [.p (.i p), tbx T, tbx U, lbx ls, lbx ms] (.p (.b (clashB ls ms T U p.toNat))) := by
  refine pcall_of Tryz.func171 rfl (fun w0 F S0 M0 => ?_)
  obtain ⟨hl, hm, hT, hU, o1, o2, hp0, hp⟩ := h
  have hl16 := hl.1
  have hm16 := hm.1
  have r1 : (rowOf 32 T p.toNat).length = 32 := row_len hT (by omega)
  have r2 : (rowOf 32 U p.toNat).length = 32 := row_len hU (by omega)
  have e : clashB ls ms T U p.toNat = (decide (rowOf 32 T p.toNat = rowOf 32 U p.toNat) && !decide (madeF ls T p = madeF ms U p)) := by
    unfold clashB; rw [Int.toNat_of_nonneg hp0]
  rw [e]
  by_cases h0 : rowOf 32 T p.toNat = rowOf 32 U p.toNat
  · have hd : decide (rowOf 32 T p.toNat = rowOf 32 U p.toNat) = true := decide_eq_true h0
    repeat' (first | refine rnZ ?_ | refine rnSB ?_ | refine rnG ?_ | refine rnU ?_ | ((fail_if_success (refine rnKn ?_)); refine rnP ?_ ?_ <;> (intro hq; try (have hq' := hq; simp only [hqs] at hq'))) | refine rkZ ?_ | refine rkSB ?_ | refine rkF ?_ | refine rkU ?_ | ((fail_if_success (refine rkKn ?_)); refine rkP ?_ ?_ <;> (intro hq; try (have hq' := hq; simp only [hqs] at hq'))) | refine stp ?_ | refine aws_draws [] mixed (by kernel_rfl) ?_ | refine ifT ?_ | refine ifF ?_ | (refine ifQ ?_ ?_ <;> (try (intro hn))) | (refine ifB ?_ ?_ <;> (intro hq; try (have hq' := hq; simp only [hqs] at hq'))))
    exact rt1 rfl rfl finS_p (rb (by rw [hd]; rfl))
  · have hd : decide (rowOf 32 T p.toNat = rowOf 32 U p.toNat) = false := decide_eq_false h0
    repeat' (first | refine rnZ ?_ | refine rnSB ?_ | refine rnG ?_ | refine rnU ?_ | ((fail_if_success (refine rnKn ?_)); refine rnP ?_ ?_ <;> (intro hq; try (have hq' := hq; simp only [hqs] at hq'))) | refine rkZ ?_ | refine rkSB ?_ | refine rkF ?_ | refine rkU ?_ | ((fail_if_success (refine rkKn ?_)); refine rkP ?_ ?_ <;> (intro hq; try (have hq' := hq; simp only [hqs] at hq'))) | refine stp ?_ | refine aws_draws [] mixed (by kernel_rfl) ?_ | refine ifT ?_ | refine ifF ?_ | (refine ifQ ?_ ?_ <;> (try (intro hn))) | (refine ifB ?_ ?_ <;> (intro hq; try (have hq' := hq; simp only [hqs] at hq'))))
    exact rt1 rfl rfl finS_p (rb (by rw [hd]; rfl))
instance {ls ms : List (List Nat)} {T U : List Nat} {p : Int} : PC Tryz.prog 171 [.p (.i p), tbx T, tbx U, lbx ls, lbx ms] (few ls ∧ few ms ∧ T.length = 672 ∧ U.length = 672 ∧ okB (madeF ls T p) ∧ okB (madeF ms U p) ∧ 0 ≤ p ∧ p < 21) (.p (.b (clashB ls ms T U p.toNat))) := ⟨at1_w ls ms T U p⟩
end Go.Proofs.YtclcfjejpogdlaaGreat.Cl
namespace Go.Proofs.YtclcfjejpogdlaaGreat.Cl
open Go.Aw Go.Aw.Sha Go.Aw.Tree Go.Aw.Clash Go.Proofs.YtclcfjejpogdlaaGreat.Tr
set_option linter.unusedVariables false
set_option linter.unusedSimpArgs false
attribute [local irreducible] sum
theorem okB_of (ls : List (List Nat)) : okB (ofF ls) := okB_inner (okB_leaves ls 16) 5
theorem okB_made {ls : List (List Nat)} {T : List Nat} (hl : okT ls) (hT : okB T) (p : Int) : okB (madeF ls T p) := by
  unfold madeF; split
  · exact .cons (by decide) (okT_get hl _)
  · exact okB_below hT p
theorem madeF_len {ls : List (List Nat)} {T : List Nat} (hl : few ls) (hT : T.length = 672) (p : Int) : (madeF ls T p).length ≤ 400000001 := by
  unfold madeF; split
  · have := few_get hl (leafOf p).toNat
    simp only [List.length_cons]; omega
  · have := belowF_len (p := p) hT; omega
theorem at_cases (ls ms : List (List Nat)) : atF ls ms (ofF ls) (ofF ms) = -1 ∧ (∀ p, p < 21 → clashB ls ms (ofF ls) (ofF ms) p = false) ∨ ∃ p : Nat, atF ls ms (ofF ls) (ofF ms) = p ∧ p < 21 ∧ clashB ls ms (ofF ls) (ofF ms) p = true := by
  rcases atFrom_in (ls := ls) (ms := ms) (T := ofF ls) (U := ofF ms) 21 0 with ⟨h1, h2⟩ | ⟨p, h1, h2, h3, h4⟩
  · exact .inl ⟨h1, fun p hp => h2 p (by omega) (by omega)⟩
  · exact .inr ⟨p, h1, by omega, h4⟩
theorem mem_come {T U : List Nat} {i : Nat} (hi : i < 16) : ((i : Int) ∈ comeList T U) ↔ comesL T U i = true := by
  unfold comeList
  rw [List.mem_map]
  constructor
  · rintro ⟨j, hj, e⟩
    have : j = i := by omega
    subst this
    exact (List.mem_filter.1 hj).2
  · intro h
    exact ⟨i, List.mem_filter.2 ⟨List.mem_range.2 hi, h⟩, rfl⟩
theorem exact_none {ls ms : List (List Nat)} (hn : ∀ p, p < 21 → clashB ls ms (ofF ls) (ofF ms) p = false) : exTo ls ms (leavesL (walkF (ofF ls) (ofF ms)).1) 16 := by
  rw [walk_leaves]
  intro i hi
  have h1 := un_of_text hn hi
  have h2 := mem_come (T := ofF ls) (U := ofF ms) hi
  generalize ofF ls = T at *
  generalize ofF ms = U at *
  have h3 : ((i : Int) ∈ comeList T U) ↔ ls.getD i default ≠ ms.getD i default := by rw [h2, h1]; exact decide_eq_true_iff
  rw [decide_eq_decide.2 h3]
  by_cases h : ls.getD i default = ms.getD i default
  · rw [decide_eq_true h, decide_eq_false (p := ls.getD i default ≠ ms.getD i default) (fun q => q h)]; decide
  · rw [decide_eq_false h, decide_eq_true (p := ls.getD i default ≠ ms.getD i default) h]; decide
theorem self_none (ls : List (List Nat)) : ∀ p, p < 21 → clashB ls ls (ofF ls) (ofF ls) p = false := fun p _ => by
  generalize ofF ls = T
  unfold clashB
  rw [decide_eq_true (p := madeF ls T p = madeF ls T p) rfl, Bool.not_true, Bool.and_false]
theorem at_self (ls : List (List Nat)) : atF ls ls (ofF ls) (ofF ls) = -1 := by
  rcases at_cases ls ls with ⟨h, _⟩ | ⟨p, _, hp, h⟩
  · exact h
  · rw [self_none ls p hp] at h; cases h
/-- what is extracted -/
def exF (ls ms : List (List Nat)) : List Nat × List Nat × Bool :=
  if atF ls ms (ofF ls) (ofF ms) < 0 then ([], [], false) else (madeF ls (ofF ls) (atF ls ms (ofF ls) (ofF ms)), madeF ms (ofF ms) (atF ls ms (ofF ls) (ofF ms)), true)
theorem ex_says (ls ms : List (List Nat)) : (exF ls ms).2.2 = false ∧ exF ls ms = ([], [], false) ∧ (∀ p, p < 21 → clashB ls ms (ofF ls) (ofF ms) p = false) ∨ (exF ls ms).2.2 = true ∧ (exF ls ms).1 ≠ (exF ls ms).2.1 ∧ sum (exF ls ms).1 = sum (exF ls ms).2.1 := by
  unfold exF
  rcases at_cases ls ms with ⟨h, hn⟩ | ⟨p, h, hp, hc⟩
  · rw [h, if_pos (by decide)]; exact .inl ⟨rfl, rfl, hn⟩
  · rw [h, if_neg (by omega)]
    exact .inr ⟨rfl, (clash_says hp hc).1, (clash_says hp hc).2⟩
theorem exF_ok {ls ms : List (List Nat)} (hl : okT ls) (hm : okT ms) : okB (exF ls ms).1 ∧ okB (exF ls ms).2.1 := by
  unfold exF; split
  · exact ⟨.nil, .nil⟩
  · exact ⟨okB_made hl (okB_of ls) _, okB_made hm (okB_of ms) _⟩
theorem exF_len {ls ms : List (List Nat)} (hl : few ls) (hm : few ms) : (exF ls ms).1.length ≤ 400000001 ∧ (exF ls ms).2.1.length ≤ 400000001 := by
  unfold exF; split
  · exact ⟨Nat.zero_le _, Nat.zero_le _⟩
  · exact ⟨madeF_len hl (ofF_len ls) _, madeF_len hm (ofF_len ms) _⟩
end Go.Proofs.YtclcfjejpogdlaaGreat.Cl
