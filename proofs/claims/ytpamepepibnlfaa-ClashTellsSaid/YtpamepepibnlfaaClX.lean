/- walks of two trees: the walk -/
import Derived.Test.YtpamepepibnlfaaClW
namespace Go.Proofs.Ytpamepepibnlfaa.Cl
open Go Go.RowKit Go.Aw Go.Aw.Sha Go.Aw.Tree Go.Aw.Clash Go.Proofs.Ytpamepepibnlfaa.Sh Go.Proofs.Ytpamepepibnlfaa.Tr
set_option linter.unusedVariables false
set_option linter.unusedSimpArgs false
set_option maxRecDepth 8000
attribute [local irreducible] sum
set_option maxHeartbeats 4000000
abbrev walkV (x : List Int × Int × Int) : AV := .tup [.one (.p (.sl 1 (x.1.map fun n => [PVal.i n]) false)), .one (.p (.i x.2.1)), .one (.p (.i x.2.2))]
theorem walkV_eq {x y : List Int × Int × Int} (h : y = x) : walkV x = walkV y := by rw [h]
theorem walk_w (T U : List Nat) (h : T.length = 672 ∧ U.length = 672) : PCall Try.prog 61 [tv T, tv U] (walkV (walkF T U)) := by
  refine pcall_of Try.func61 rfl (fun w0 F S0 M0 => ?_)
  obtain ⟨hT, hU⟩ := h
  repeat' (first
      | refine rnB ?_
      | refine rnSB ?_
      | refine rnG ?_
      | refine rnU ?_
      | ((fail_if_success (refine rnKn ?_)); refine rnP ?_ ?_ <;> (intro hq; try (have hq' := hq; simp only [hqs] at hq')))
      | refine rkB ?_
      | refine rkSB ?_
      | refine rkF ?_
      | refine rkU ?_
      | ((fail_if_success (refine rkKn ?_)); refine rkP ?_ ?_ <;> (intro hq; try (have hq' := hq; simp only [hqs] at hq')))
      | refine stp ?_
      | refine ifT ?_
      | refine ifF ?_
      | (refine ifQ ?_ ?_ <;> (try (intro hn)))
      | (refine ifB ?_ ?_ <;> (intro hq; try (have hq' := hq; simp only [hqs] at hq'))))
  refine aws_scopeM 0 [4, 5, 6, 7, 8, 9, 10, 11, 12, 13, 14, 15, 16, 17, 18, 19, 20, 21, 22, 23, 24, 25, 26, 27, 28, 29, 30, 31, 32, 33, 34, 35, 36, 37, 38, 39, 40, 41] [] (fun r : Nat => [(7, .p (.sl 1 ((wst T U r).1.map fun n => [PVal.i n]) (wst T U r).2.1)), (8, .p (.i (wst T U r).2.2)), (9, .p (.i r))]) (fun _ => []) (wstP T U) (fun r => 2 - r) rfl ?_ ?_
  · intro r β γ hP
    have hend := wst_end hP
    have hstop := wst_stop hP
    have hnext := wst_next hP
    have hlen := wst_len (T := T) (U := U) r
    have hkb := wst_k (T := T) (U := U) r
    dsimp only
    generalize hw : wst T U r = w at hend hstop hnext hlen hkb
    obtain ⟨l, ex, k⟩ := w
    simp only at hend hstop hnext hlen hkb
    have hkl := kidsL_le l
    have hul := unL_le (T := T) (U := U) l
    have hdl : (digsL U (kidsL l)).length = (kidsL l).length := by unfold digsL; rw [List.length_map]
    have hr2 : r ≤ 2 := hP.1
    dsimp only
    by_cases hk : kidsL l = []
    · have hd : decide (((digsL U (kidsL l)).length : Int) = 0) = true := decide_eq_true (by rw [hdl, hk]; rfl)
      repeat' (first
          | refine rnB ?_
          | refine rnSB ?_
          | refine rnG ?_
          | refine rnU ?_
          | ((fail_if_success (refine rnKn ?_)); refine rnP ?_ ?_ <;> (intro hq; try (have hq' := hq; simp only [hqs] at hq')))
          | refine rkB ?_
          | refine rkSB ?_
          | refine rkF ?_
          | refine rkU ?_
          | ((fail_if_success (refine rkKn ?_)); refine rkP ?_ ?_ <;> (intro hq; try (have hq' := hq; simp only [hqs] at hq')))
          | refine stp ?_
          | refine ifT ?_
          | refine ifF ?_
          | (refine ifQ ?_ ?_ <;> (try (intro hn)))
          | (refine ifB ?_ ?_ <;> (intro hq; try (have hq' := hq; simp only [hqs] at hq'))))
      obtain ⟨h1, h2⟩ := hend hk
      subst h2
      exact rt3 rfl rfl finS_p rfl finS_p rfl finS_p (walkV_eq h1.symm)
    · have hkp : 0 < (kidsL l).length := List.length_pos_iff.2 hk
      have hd : decide (((digsL U (kidsL l)).length : Int) = 0) = false := decide_eq_false (by rw [hdl]; omega)
      by_cases hu : unL T U l = []
      · have hd2 : decide (((unL T U l).length : Int) > 0) = false := decide_eq_false (by rw [hu]; simp)
        repeat' (first
            | refine rnB ?_
            | refine rnSB ?_
            | refine rnG ?_
            | refine rnU ?_
            | ((fail_if_success (refine rnKn ?_)); refine rnP ?_ ?_ <;> (intro hq; try (have hq' := hq; simp only [hqs] at hq')))
            | refine rkB ?_
            | refine rkSB ?_
            | refine rkF ?_
            | refine rkU ?_
            | ((fail_if_success (refine rkKn ?_)); refine rkP ?_ ?_ <;> (intro hq; try (have hq' := hq; simp only [hqs] at hq')))
            | refine stp ?_
            | refine ifT ?_
            | refine ifF ?_
            | (refine ifQ ?_ ?_ <;> (try (intro hn)))
            | (refine ifB ?_ ?_ <;> (intro hq; try (have hq' := hq; simp only [hqs] at hq'))))
        refine rt3 (u0 := .one (.p (.sl 1 [] false))) rfl rfl (.one .nil) rfl finS_p rfl finS_p ?_
        rw [hstop hk hu, hdl]; rfl
      · have hup : 0 < (unL T U l).length := List.length_pos_iff.2 hu
        have hd2 : decide (((unL T U l).length : Int) > 0) = true := decide_eq_true (by omega)
        obtain ⟨h1, h2, h3⟩ := hnext hk hu
        repeat' (first
            | refine rnB ?_
            | refine rnSB ?_
            | refine rnG ?_
            | refine rnU ?_
            | ((fail_if_success (refine rnKn ?_)); refine rnP ?_ ?_ <;> (intro hq; try (have hq' := hq; simp only [hqs] at hq')))
            | refine rkB ?_
            | refine rkSB ?_
            | refine rkF ?_
            | refine rkU ?_
            | ((fail_if_success (refine rkKn ?_)); refine rkP ?_ ?_ <;> (intro hq; try (have hq' := hq; simp only [hqs] at hq')))
            | refine stp ?_
            | refine ifT ?_
            | refine ifF ?_
            | (refine ifQ ?_ ?_ <;> (try (intro hn)))
            | (refine ifB ?_ ?_ <;> (intro hq; try (have hq' := hq; simp only [hqs] at hq'))))
        refine ⟨rfl, r + 1, _, by omega, h3, .refl, ?_⟩
        rw [h2, ← hdl]
        exact frA
  · intro hl
    by_cases h0 : row T 0 = row U 0
    · have hd : decide (row T 0 = row U 0) = true := decide_eq_true h0
      repeat' (first
          | refine rnB ?_
          | refine rnSB ?_
          | refine rnG ?_
          | refine rnU ?_
          | ((fail_if_success (refine rnKn ?_)); refine rnP ?_ ?_ <;> (intro hq; try (have hq' := hq; simp only [hqs] at hq')))
          | refine rkB ?_
          | refine rkSB ?_
          | refine rkF ?_
          | refine rkU ?_
          | ((fail_if_success (refine rkKn ?_)); refine rkP ?_ ?_ <;> (intro hq; try (have hq' := hq; simp only [hqs] at hq')))
          | refine stp ?_
          | refine ifT ?_
          | refine ifF ?_
          | (refine ifQ ?_ ?_ <;> (try (intro hn)))
          | (refine ifB ?_ ?_ <;> (intro hq; try (have hq' := hq; simp only [hqs] at hq'))))
      refine rt3 (u0 := .one (.p (.sl 1 [] false))) rfl rfl (.one .nil) rfl finS_p rfl finS_p ?_
      unfold walkF
      rw [if_pos h0]; rfl
    · have hd : decide (row T 0 = row U 0) = false := decide_eq_false h0
      have hlab := fun s => hl 0 s ⟨by omega, fun h => absurd h (by omega), fun h => absurd h (by omega), h0⟩
      repeat' (first
          | refine aws_label (hlab _ ?_)
          | refine rnB ?_
          | refine rnSB ?_
          | refine rnG ?_
          | refine rnU ?_
          | ((fail_if_success (refine rnKn ?_)); refine rnP ?_ ?_ <;> (intro hq; try (have hq' := hq; simp only [hqs] at hq')))
          | refine rkB ?_
          | refine rkSB ?_
          | refine rkF ?_
          | refine rkU ?_
          | ((fail_if_success (refine rkKn ?_)); refine rkP ?_ ?_ <;> (intro hq; try (have hq' := hq; simp only [hqs] at hq')))
          | refine stp ?_
          | refine ifT ?_
          | refine ifF ?_
          | (refine ifQ ?_ ?_ <;> (try (intro hn)))
          | (refine ifB ?_ ?_ <;> (intro hq; try (have hq' := hq; simp only [hqs] at hq'))))
      exact frA
instance {T U : List Nat} : PC Try.prog 61 [tv T, tv U] (T.length = 672 ∧ U.length = 672) (walkV (walkF T U)) := ⟨walk_w T U⟩
theorem diff_w (T U : List Nat) (h : T.length = 672 ∧ U.length = 672) : PCall Try.prog 25 [tv T, tv U] (.tup [.one (.p (.sl 1 ((leavesL (walkF T U).1).map fun n => [PVal.i n]) false)), .one (.p (.i (walkF T U).2.1))]) := by
  refine pcall_of Try.func25 rfl (fun w0 F S0 M0 => ?_)
  obtain ⟨hT, hU⟩ := h
  have hlen := walkF_len (T := T) (U := U)
  repeat' (first
      | refine rnB ?_
      | refine rnSB ?_
      | refine rnG ?_
      | refine rnU ?_
      | ((fail_if_success (refine rnKn ?_)); refine rnP ?_ ?_ <;> (intro hq; try (have hq' := hq; simp only [hqs] at hq')))
      | refine rkB ?_
      | refine rkSB ?_
      | refine rkF ?_
      | refine rkU ?_
      | ((fail_if_success (refine rkKn ?_)); refine rkP ?_ ?_ <;> (intro hq; try (have hq' := hq; simp only [hqs] at hq')))
      | refine stp ?_
      | refine ifT ?_
      | refine ifF ?_
      | (refine ifQ ?_ ?_ <;> (try (intro hn)))
      | (refine ifB ?_ ?_ <;> (intro hq; try (have hq' := hq; simp only [hqs] at hq'))))
  exact rt2 rfl rfl finS_p rfl finS_p rfl
instance {T U : List Nat} : PC Try.prog 25 [tv T, tv U] (T.length = 672 ∧ U.length = 672) (.tup [.one (.p (.sl 1 ((leavesL (walkF T U).1).map fun n => [PVal.i n]) false)), .one (.p (.i (walkF T U).2.1))]) := ⟨diff_w T U⟩
theorem rounds_w (T U : List Nat) (h : T.length = 672 ∧ U.length = 672) : PCall Try.prog 27 [tv T, tv U] (.p (.i (walkF T U).2.2)) := by
  refine pcall_of Try.func27 rfl (fun w0 F S0 M0 => ?_)
  obtain ⟨hT, hU⟩ := h
  repeat' (first
      | refine rnB ?_
      | refine rnSB ?_
      | refine rnG ?_
      | refine rnU ?_
      | ((fail_if_success (refine rnKn ?_)); refine rnP ?_ ?_ <;> (intro hq; try (have hq' := hq; simp only [hqs] at hq')))
      | refine rkB ?_
      | refine rkSB ?_
      | refine rkF ?_
      | refine rkU ?_
      | ((fail_if_success (refine rkKn ?_)); refine rkP ?_ ?_ <;> (intro hq; try (have hq' := hq; simp only [hqs] at hq')))
      | refine stp ?_
      | refine ifT ?_
      | refine ifF ?_
      | (refine ifQ ?_ ?_ <;> (try (intro hn)))
      | (refine ifB ?_ ?_ <;> (intro hq; try (have hq' := hq; simp only [hqs] at hq'))))
  exact rt1 rfl rfl finS_p rfl
instance {T U : List Nat} : PC Try.prog 27 [tv T, tv U] (T.length = 672 ∧ U.length = 672) (.p (.i (walkF T U).2.2)) := ⟨rounds_w T U⟩
end Go.Proofs.Ytpamepepibnlfaa.Cl
