/- walks of two trees: the walk; clashes: what the library's functions answer; clashes: what a place's digest is made of; clashes: Made, Exact -/
import Derived.Test.YtclcfjejpogdlaaGreatCS40
import Derived.Test.YtclcfjejpogdlaaGreatCS37
namespace Go.Proofs.YtclcfjejpogdlaaGreat.Cl
open Go Go.RowKit Go.Aw Go.Aw.Sha Go.Aw.Tree Go.Aw.Clash Go.Proofs.YtclcfjejpogdlaaGreat.Sh Go.Proofs.YtclcfjejpogdlaaGreat.Tr
set_option linter.unusedVariables false
set_option linter.unusedSimpArgs false
set_option maxRecDepth 8000
attribute [local irreducible] sum
set_option maxHeartbeats 4000000
abbrev walkV (x : List Int × Int × Int) : AV := .tup [.one (.p (.sl 1 (x.1.map fun n => [PVal.i n]) false)), .one (.p (.i x.2.1)), .one (.p (.i x.2.2))]
theorem walkV_eq {x y : List Int × Int × Int} (h : y = x) : walkV x = walkV y := by rw [h]
theorem walk_w (T U : List Nat) (h : T.length = 672 ∧ U.length = 672) : PCall Tryz.prog 88 [tv T, tv U] (walkV (walkF T U)) := by
  refine pcall_of Tryz.func88 rfl (fun w0 F S0 M0 => ?_)
  obtain ⟨hT, hU⟩ := h
  repeat' (first | refine rnB ?_ | refine rnSB ?_ | refine rnG ?_ | refine rnU ?_ | ((fail_if_success (refine rnKn ?_)); refine rnP ?_ ?_ <;> (intro hq; try (have hq' := hq; simp only [hqs] at hq'))) | refine rkB ?_ | refine rkSB ?_ | refine rkF ?_ | refine rkU ?_ | ((fail_if_success (refine rkKn ?_)); refine rkP ?_ ?_ <;> (intro hq; try (have hq' := hq; simp only [hqs] at hq'))) | refine stp ?_ | refine ifT ?_ | refine ifF ?_ | (refine ifQ ?_ ?_ <;> (try (intro hn))) | (refine ifB ?_ ?_ <;> (intro hq; try (have hq' := hq; simp only [hqs] at hq'))))
  refine aws_scopeM 0 [4, 5, 6, 7, 8, 9, 10, 11, 12, 13, 14, 15, 16, 17, 18, 19, 20, 21, 22, 23, 24, 25, 26, 27, 28, 29, 30, 31, 32, 33, 34, 35, 36, 37, 38, 39, 40, 41] [] (fun r : Nat => [(7, .p (.sl 1 ((wst T U r).1.map fun n => [PVal.i n]) (wst T U r).2.1)), (8, .p (.i (wst T U r).2.2)), (9, .p (.i r))]) (fun _ => []) (wstP T U) (fun r => 2 - r) rfl ?_ ?_
  · intro r β γ hP
    have hend := wst_end hP
    have hstop := wst_stop hP
    have hnext := wst_next hP
    have hlen := wst_len (T := T) (U := U) r
    have hkb := wst_k (T := T) (U := U) r
    dsimp only
    generalize hw : wst T U r = w at hend hstop hnext hlen hkb
    obtain ⟨l, ex, k⟩ := w
    simp only at hend hstop hnext hlen hkb
    have hkl := kidsL_le l
    have hul := unL_le (T := T) (U := U) l
    have hdl : (digsL U (kidsL l)).length = (kidsL l).length := by unfold digsL; rw [List.length_map]
    have hr2 : r ≤ 2 := hP.1
    dsimp only
    by_cases hk : kidsL l = []
    · have hd : decide (((digsL U (kidsL l)).length : Int) = 0) = true := decide_eq_true (by rw [hdl, hk]; rfl)
      repeat' (first | refine rnB ?_ | refine rnSB ?_ | refine rnG ?_ | refine rnU ?_ | ((fail_if_success (refine rnKn ?_)); refine rnP ?_ ?_ <;> (intro hq; try (have hq' := hq; simp only [hqs] at hq'))) | refine rkB ?_ | refine rkSB ?_ | refine rkF ?_ | refine rkU ?_ | ((fail_if_success (refine rkKn ?_)); refine rkP ?_ ?_ <;> (intro hq; try (have hq' := hq; simp only [hqs] at hq'))) | refine stp ?_ | refine ifT ?_ | refine ifF ?_ | (refine ifQ ?_ ?_ <;> (try (intro hn))) | (refine ifB ?_ ?_ <;> (intro hq; try (have hq' := hq; simp only [hqs] at hq'))))
      obtain ⟨h1, h2⟩ := hend hk
      subst h2
      exact rt3 rfl rfl finS_p rfl finS_p rfl finS_p (walkV_eq h1.symm)
    · have hkp : 0 < (kidsL l).length := List.length_pos_iff.2 hk
      have hd : decide (((digsL U (kidsL l)).length : Int) = 0) = false := decide_eq_false (by rw [hdl]; omega)
      by_cases hu : unL T U l = []
      · have hd2 : decide (((unL T U l).length : Int) > 0) = false := decide_eq_false (by rw [hu]; simp)
        repeat' (first | refine rnB ?_ | refine rnSB ?_ | refine rnG ?_ | refine rnU ?_ | ((fail_if_success (refine rnKn ?_)); refine rnP ?_ ?_ <;> (intro hq; try (have hq' := hq; simp only [hqs] at hq'))) | refine rkB ?_ | refine rkSB ?_ | refine rkF ?_ | refine rkU ?_ | ((fail_if_success (refine rkKn ?_)); refine rkP ?_ ?_ <;> (intro hq; try (have hq' := hq; simp only [hqs] at hq'))) | refine stp ?_ | refine ifT ?_ | refine ifF ?_ | (refine ifQ ?_ ?_ <;> (try (intro hn))) | (refine ifB ?_ ?_ <;> (intro hq; try (have hq' := hq; simp only [hqs] at hq'))))
        refine rt3 (u0 := .one (.p (.sl 1 [] false))) rfl rfl (.one .nil) rfl finS_p rfl finS_p ?_
        rw [hstop hk hu, hdl]; rfl
      · have hup : 0 < (unL T U l).length := List.length_pos_iff.2 hu
        have hd2 : decide (((unL T U l).length : Int) > 0) = true := decide_eq_true (by omega)
        obtain ⟨h1, h2, h3⟩ := hnext hk hu
        repeat' (first | refine rnB ?_ | refine rnSB ?_ | refine rnG ?_ | refine rnU ?_ | ((fail_if_success (refine rnKn ?_)); refine rnP ?_ ?_ <;> (intro hq; try (have hq' := hq; simp only [hqs] at hq'))) | refine rkB ?_ | refine rkSB ?_ | refine rkF ?_ | refine rkU ?_ | ((fail_if_success (refine rkKn ?_)); refine rkP ?_ ?_ <;> (intro hq; try (have hq' := hq; simp only [hqs] at hq'))) | refine stp ?_ | refine ifT ?_ | refine ifF ?_ | (refine ifQ ?_ ?_ <;> (try (intro hn))) | (refine ifB ?_ ?_ <;> (intro hq; try (have hq' := hq; simp only [hqs] at hq'))))
        refine ⟨rfl, r + 1, _, by omega, h3, .refl, ?_⟩
        rw [h2, ← hdl]
        exact frA
  · intro hl
    by_cases h0 : row T 0 = row U 0
    · have hd : decide (row T 0 = row U 0) = true := decide_eq_true h0
      repeat' (first | refine rnB ?_ | refine rnSB ?_ | refine rnG ?_ | refine rnU ?_ | ((fail_if_success (refine rnKn ?_)); refine rnP ?_ ?_ <;> (intro hq; try (have hq' := hq; simp only [hqs] at hq'))) | refine rkB ?_ | refine rkSB ?_ | refine rkF ?_ | refine rkU ?_ | ((fail_if_success (refine rkKn ?_)); refine rkP ?_ ?_ <;> (intro hq; try (have hq' := hq; simp only [hqs] at hq'))) | refine stp ?_ | refine ifT ?_ | refine ifF ?_ | (refine ifQ ?_ ?_ <;> (try (intro hn))) | (refine ifB ?_ ?_ <;> (intro hq; try (have hq' := hq; simp only [hqs] at hq'))))
      refine rt3 (u0 := .one (.p (.sl 1 [] false))) rfl rfl (.one .nil) rfl finS_p rfl finS_p ?_
      unfold walkF
      rw [if_pos h0]; rfl
    · have hd : decide (row T 0 = row U 0) = false := decide_eq_false h0
      have hlab := fun s => hl 0 s ⟨by omega, fun h => absurd h (by omega), fun h => absurd h (by omega), h0⟩
      repeat' (first | refine aws_label (hlab _ ?_) | refine rnB ?_ | refine rnSB ?_ | refine rnG ?_ | refine rnU ?_ | ((fail_if_success (refine rnKn ?_)); refine rnP ?_ ?_ <;> (intro hq; try (have hq' := hq; simp only [hqs] at hq'))) | refine rkB ?_ | refine rkSB ?_ | refine rkF ?_ | refine rkU ?_ | ((fail_if_success (refine rkKn ?_)); refine rkP ?_ ?_ <;> (intro hq; try (have hq' := hq; simp only [hqs] at hq'))) | refine stp ?_ | refine ifT ?_ | refine ifF ?_ | (refine ifQ ?_ ?_ <;> (try (intro hn))) | (refine ifB ?_ ?_ <;> (intro hq; try (have hq' := hq; simp only [hqs] at hq'))))
      exact frA
instance {T U : List Nat} : PC Tryz.prog 88 [tv T, tv U] (T.length = 672 ∧ U.length = 672) (walkV (walkF T U)) := ⟨walk_w T U⟩
theorem diff_w (T U : List Nat) (h : T.length = 672 ∧ U.length = 672) : PCall Tryz.prog 20 [tv T, tv U] (.tup [.one (.p (.sl 1 ((leavesL (walkF T U).1).map fun n => [PVal.i n]) false)), .one (.p (.i (walkF T U).2.1))]) := by
  refine pcall_of Tryz.func20 rfl (fun w0 F S0 M0 => ?_)
  obtain ⟨hT, hU⟩ := h
  have hlen := walkF_len (T := T) (U := U)
  repeat' (first | refine rnB ?_ | refine rnSB ?_ | refine rnG ?_ | refine rnU ?_ | ((fail_if_success (refine rnKn ?_)); refine rnP ?_ ?_ <;> (intro hq; try (have hq' := hq; simp only [hqs] at hq'))) | refine rkB ?_ | refine rkSB ?_ | refine rkF ?_ | refine rkU ?_ | ((fail_if_success (refine rkKn ?_)); refine rkP ?_ ?_ <;> (intro hq; try (have hq' := hq; simp only [hqs] at hq'))) | refine stp ?_ | refine ifT ?_ | refine ifF ?_ | (refine ifQ ?_ ?_ <;> (try (intro hn))) | (refine ifB ?_ ?_ <;> (intro hq; try (have hq' := hq; simp only [hqs] at hq'))))
  exact rt2 rfl rfl finS_p rfl finS_p rfl
instance {T U : List Nat} : PC Tryz.prog 20 [tv T, tv U] (T.length = 672 ∧ U.length = 672) (.tup [.one (.p (.sl 1 ((leavesL (walkF T U).1).map fun n => [PVal.i n]) false)), .one (.p (.i (walkF T U).2.1))]) := ⟨diff_w T U⟩
end Go.Proofs.YtclcfjejpogdlaaGreat.Cl
namespace Go.Proofs.YtclcfjejpogdlaaGreat.Cl
open Go Go.RowKit Go.Aw Go.Aw.Sha Go.Aw.Tree Go.Aw.Clash Go.Proofs.YtclcfjejpogdlaaGreat.Sh Go.Proofs.YtclcfjejpogdlaaGreat.Tr
set_option linter.unusedVariables false
set_option linter.unusedSimpArgs false
set_option maxRecDepth 8000
attribute [local irreducible] sum
set_option maxHeartbeats 4000000
def idxFrom (l : List Int) (v : Int) (k : Nat) : Nat → Int
  | 0 => -1
  | n + 1 => if v = l.getD k default then k else idxFrom l v (k + 1) n
theorem idx_mem {l : List Int} {v : Int} : ∀ (n k : Nat), k + n = l.length → (0 ≤ idxFrom l v k n ↔ v ∈ l.drop k)
  | 0, k, h => by rw [List.drop_eq_nil_of_le (by omega)]; simp [idxFrom]
  | n + 1, k, h => by
    have hk : k < l.length := by omega
    have e : l.drop k = l.getD k default :: l.drop (k + 1) := by
      rw [List.getD_eq_getElem?_getD, List.getElem?_eq_getElem hk]; exact List.drop_eq_getElem_cons hk
    rw [idxFrom, e, List.mem_cons, ← idx_mem n (k + 1) (by omega)]
    by_cases hv : v = l.getD k default
    · rw [if_pos hv]; exact ⟨fun _ => .inl hv, fun _ => by omega⟩
    · rw [if_neg hv]; exact ⟨.inr, fun q => q.resolve_left hv⟩
theorem index_w (l : List Int) (ex : Bool) (v : Int) (h : l.length ≤ 1000) : PCall Tryz.prog 225 [ints l ex, .p (.i v)] (.p (.i (idxFrom l v 0 l.length))) := by
  refine pcall_of Tryz.func225 rfl (fun w0 F S0 M0 => ?_)
  repeat' (first | refine rnB ?_ | refine rnSB ?_ | refine rnG ?_ | refine rnU ?_ | ((fail_if_success (refine rnKn ?_)); refine rnP ?_ ?_ <;> (intro hq; try (have hq' := hq; simp only [hqs] at hq'))) | refine rkB ?_ | refine rkSB ?_ | refine rkF ?_ | refine rkU ?_ | ((fail_if_success (refine rkKn ?_)); refine rkP ?_ ?_ <;> (intro hq; try (have hq' := hq; simp only [hqs] at hq'))) | refine stp ?_ | refine ifT ?_ | refine ifF ?_ | (refine ifQ ?_ ?_ <;> (try (intro hn))) | (refine ifB ?_ ?_ <;> (intro hq; try (have hq' := hq; simp only [hqs] at hq'))))
  refine aws_loopS [4, 5, 8, 9, 10, 11, 12, 13, 14, 15, 16, 17, 18] [] (fun (i : Nat) => [(8, .p (.i i))]) (fun _ => []) (fun i => i ≤ l.length ∧ idxFrom l v 0 l.length = idxFrom l v i (l.length - i)) (fun i => l.length - i) 0 ⟨Nat.zero_le _, rfl⟩ (by exact knA) (by exact knA) ?_
  rintro i β γ ⟨hi, hx⟩
  by_cases hil : i < l.length
  · have hlt : decide ((i : Int) < l.length) = true := decide_eq_true (by omega)
    rw [show l.length - i = (l.length - (i + 1)) + 1 by omega, idxFrom] at hx
    by_cases hv : v = l.getD (i : Int).toNat default
    · have hd : decide (v = l.getD (i : Int).toNat default) = true := decide_eq_true hv
      rw [Int.toNat_natCast] at hv
      rw [if_pos hv] at hx
      rw [hx]
      repeat' (first | refine rnB ?_ | refine rnSB ?_ | refine rnG ?_ | refine rnU ?_ | ((fail_if_success (refine rnKn ?_)); refine rnP ?_ ?_ <;> (intro hq; try (have hq' := hq; simp only [hqs] at hq'))) | refine rkB ?_ | refine rkSB ?_ | refine rkF ?_ | refine rkU ?_ | ((fail_if_success (refine rkKn ?_)); refine rkP ?_ ?_ <;> (intro hq; try (have hq' := hq; simp only [hqs] at hq'))) | refine stp ?_ | refine ifT ?_ | refine ifF ?_ | (refine ifQ ?_ ?_ <;> (try (intro hn))) | (refine ifB ?_ ?_ <;> (intro hq; try (have hq' := hq; simp only [hqs] at hq'))))
      exact rt1 rfl rfl finS_p rfl
    · have hd : decide (v = l.getD (i : Int).toNat default) = false := decide_eq_false hv
      rw [Int.toNat_natCast] at hv
      rw [if_neg hv] at hx
      repeat' (first | refine rnB ?_ | refine rnSB ?_ | refine rnG ?_ | refine rnU ?_ | ((fail_if_success (refine rnKn ?_)); refine rnP ?_ ?_ <;> (intro hq; try (have hq' := hq; simp only [hqs] at hq'))) | refine rkB ?_ | refine rkSB ?_ | refine rkF ?_ | refine rkU ?_ | ((fail_if_success (refine rkKn ?_)); refine rkP ?_ ?_ <;> (intro hq; try (have hq' := hq; simp only [hqs] at hq'))) | refine stp ?_ | refine ifT ?_ | refine ifF ?_ | (refine ifQ ?_ ?_ <;> (try (intro hn))) | (refine ifB ?_ ?_ <;> (intro hq; try (have hq' := hq; simp only [hqs] at hq'))))
      exact ⟨i + 1, _, by omega, ⟨by omega, hx⟩, .refl, by exact frA⟩
  · have hlt : decide ((i : Int) < l.length) = false := decide_eq_false (by omega)
    rw [show l.length - i = 0 by omega, idxFrom] at hx
    rw [hx]
    repeat' (first | refine rnB ?_ | refine rnSB ?_ | refine rnG ?_ | refine rnU ?_ | ((fail_if_success (refine rnKn ?_)); refine rnP ?_ ?_ <;> (intro hq; try (have hq' := hq; simp only [hqs] at hq'))) | refine rkB ?_ | refine rkSB ?_ | refine rkF ?_ | refine rkU ?_ | ((fail_if_success (refine rkKn ?_)); refine rkP ?_ ?_ <;> (intro hq; try (have hq' := hq; simp only [hqs] at hq'))) | refine stp ?_ | refine ifT ?_ | refine ifF ?_ | (refine ifQ ?_ ?_ <;> (try (intro hn))) | (refine ifB ?_ ?_ <;> (intro hq; try (have hq' := hq; simp only [hqs] at hq'))))
    exact rt1 rfl rfl finS_p rfl
instance {l : List Int} {ex : Bool} {v : Int} : PC Tryz.prog 225 [ints l ex, .p (.i v)] (l.length ≤ 1000) (.p (.i (idxFrom l v 0 l.length))) := ⟨index_w l ex v⟩
theorem contains_w (l : List Int) (ex : Bool) (v : Int) (h : l.length ≤ 1000) : PCall Tryz.prog 173 [ints l ex, .p (.i v)] (.p (.b (decide (v ∈ l)))) := by
  refine pcall_of Tryz.func173 rfl (fun w0 F S0 M0 => ?_)
  repeat' (first | refine rnB ?_ | refine rnSB ?_ | refine rnG ?_ | refine rnU ?_ | ((fail_if_success (refine rnKn ?_)); refine rnP ?_ ?_ <;> (intro hq; try (have hq' := hq; simp only [hqs] at hq'))) | refine rkB ?_ | refine rkSB ?_ | refine rkF ?_ | refine rkU ?_ | ((fail_if_success (refine rkKn ?_)); refine rkP ?_ ?_ <;> (intro hq; try (have hq' := hq; simp only [hqs] at hq'))) | refine stp ?_ | refine ifT ?_ | refine ifF ?_ | (refine ifQ ?_ ?_ <;> (try (intro hn))) | (refine ifB ?_ ?_ <;> (intro hq; try (have hq' := hq; simp only [hqs] at hq'))))
  refine rt1 rfl rfl finS_p (rb ?_)
  exact decide_eq_decide.2 ((idx_mem (l := l) (v := v) l.length 0 (by omega)).trans (by rw [List.drop_zero])).symm
instance {l : List Int} {ex : Bool} {v : Int} : PC Tryz.prog 173 [ints l ex, .p (.i v)] (l.length ≤ 1000) (.p (.b (decide (v ∈ l)))) := ⟨contains_w l ex v⟩
theorem bequal_w (l m : List Nat) (ex ey : Bool) (h : okB l ∧ okB m) : PCall Tryz.prog 91 [bytesN l ex, bytesN m ey] (.p (.b (decide (l = m)))) := by
  refine pcall_of Tryz.func91 rfl (fun w0 F S0 M0 => ?_)
  obtain ⟨hl, hm⟩ := h
  repeat' (first | refine rnB ?_ | refine rnSB ?_ | refine rnG ?_ | refine rnU ?_ | ((fail_if_success (refine rnKn ?_)); refine rnP ?_ ?_ <;> (intro hq; try (have hq' := hq; simp only [hqs] at hq'))) | refine rkB ?_ | refine rkSB ?_ | refine rkF ?_ | refine rkU ?_ | ((fail_if_success (refine rkKn ?_)); refine rkP ?_ ?_ <;> (intro hq; try (have hq' := hq; simp only [hqs] at hq'))) | refine stp ?_ | refine ifT ?_ | refine ifF ?_ | (refine ifQ ?_ ?_ <;> (try (intro hn))) | (refine ifB ?_ ?_ <;> (intro hq; try (have hq' := hq; simp only [hqs] at hq'))))
  exact rt1 rfl rfl finS_p (rb rfl)
instance {l m : List Nat} {ex ey : Bool} : PC Tryz.prog 91 [bytesN l ex, bytesN m ey] (okB l ∧ okB m) (.p (.b (decide (l = m)))) := ⟨bequal_w l m ex ey⟩
end Go.Proofs.YtclcfjejpogdlaaGreat.Cl
namespace Go.Proofs.YtclcfjejpogdlaaGreat.Cl
open Go Go.RowKit Go.Aw Go.Aw.Sha Go.Aw.Tree Go.Aw.Clash Go.Proofs.YtclcfjejpogdlaaGreat.Sh Go.Proofs.YtclcfjejpogdlaaGreat.Tr
set_option linter.unusedVariables false
set_option linter.unusedSimpArgs false
set_option maxRecDepth 8000
attribute [local irreducible] sum
set_option maxHeartbeats 4000000
theorem made_w (ls : List (List Nat)) (T : List Nat) (p : Int) (h : few ls ∧ T.length = 672) : PCall Tryz.prog 172 [txs ls, tv T, .p (.i p)] (bytesN (madeF ls T p) false) := by
  refine pcall_of Tryz.func172 rfl (fun w0 F S0 M0 => ?_)
  obtain ⟨hl, hT⟩ := h
  have hl16 := hl.1
  have hfl := few_get hl (leafOf p).toNat
  have hlf : leafOf p < 16 := by unfold leafOf; split <;> omega
  unfold madeF
  by_cases h0 : 0 ≤ leafOf p
  · have hd : decide (0 ≤ leafOf p) = true := decide_eq_true h0
    rw [if_pos h0]
    repeat' (first | refine rnB ?_ | refine rnSB ?_ | refine rnG ?_ | refine rnU ?_ | ((fail_if_success (refine rnKn ?_)); refine rnP ?_ ?_ <;> (intro hq; try (have hq' := hq; simp only [hqs] at hq'))) | refine rkB ?_ | refine rkSB ?_ | refine rkF ?_ | refine rkU ?_ | ((fail_if_success (refine rkKn ?_)); refine rkP ?_ ?_ <;> (intro hq; try (have hq' := hq; simp only [hqs] at hq'))) | refine stp ?_ | refine ifT ?_ | refine ifF ?_ | (refine ifQ ?_ ?_ <;> (try (intro hn))) | (refine ifB ?_ ?_ <;> (intro hq; try (have hq' := hq; simp only [hqs] at hq'))))
    exact rt1 rfl rfl finS_p rfl
  · have hd : decide (0 ≤ leafOf p) = false := decide_eq_false h0
    rw [if_neg h0]
    repeat' (first | refine rnB ?_ | refine rnSB ?_ | refine rnG ?_ | refine rnU ?_ | ((fail_if_success (refine rnKn ?_)); refine rnP ?_ ?_ <;> (intro hq; try (have hq' := hq; simp only [hqs] at hq'))) | refine rkB ?_ | refine rkSB ?_ | refine rkF ?_ | refine rkU ?_ | ((fail_if_success (refine rkKn ?_)); refine rkP ?_ ?_ <;> (intro hq; try (have hq' := hq; simp only [hqs] at hq'))) | refine stp ?_ | refine ifT ?_ | refine ifF ?_ | (refine ifQ ?_ ?_ <;> (try (intro hn))) | (refine ifB ?_ ?_ <;> (intro hq; try (have hq' := hq; simp only [hqs] at hq'))))
    exact rt1 rfl rfl finS_p rfl
instance {ls : List (List Nat)} {T : List Nat} {p : Int} : PC Tryz.prog 172 [txs ls, tv T, .p (.i p)] (few ls ∧ T.length = 672) (bytesN (madeF ls T p) false) := ⟨made_w ls T p⟩
end Go.Proofs.YtclcfjejpogdlaaGreat.Cl
namespace Go.Proofs.YtclcfjejpogdlaaGreat.Cl
open Go Go.RowKit Go.Aw Go.Aw.Sha Go.Aw.Tree Go.Aw.Clash Go.Proofs.YtclcfjejpogdlaaGreat.Sh Go.Proofs.YtclcfjejpogdlaaGreat.Tr
set_option linter.unusedVariables false
set_option linter.unusedSimpArgs false
set_option maxRecDepth 8000
attribute [local irreducible] sum
set_option maxHeartbeats 4000000
theorem Made_w (ls : List (List Nat)) (p : Int) (h : few ls) : PCall Tryz.prog 80 [txs ls, .p (.i p)] (bytesN (madeF ls (ofF ls) p) false) := by
  refine pcall_of Tryz.func80 rfl (fun w0 F S0 M0 => ?_)
  have hl16 := h.1
  have hof := ofF_len ls
  repeat' (first | refine rnB ?_ | refine rnSB ?_ | refine rnG ?_ | refine rnU ?_ | ((fail_if_success (refine rnKn ?_)); refine rnP ?_ ?_ <;> (intro hq; try (have hq' := hq; simp only [hqs] at hq'))) | refine rkB ?_ | refine rkSB ?_ | refine rkF ?_ | refine rkU ?_ | ((fail_if_success (refine rkKn ?_)); refine rkP ?_ ?_ <;> (intro hq; try (have hq' := hq; simp only [hqs] at hq'))) | refine stp ?_ | refine aws_draws [] mixed (by kernel_rfl) ?_ | refine ifT ?_ | refine ifF ?_ | (refine ifQ ?_ ?_ <;> (try (intro hn))) | (refine ifB ?_ ?_ <;> (intro hq; try (have hq' := hq; simp only [hqs] at hq'))))
  exact rt1 rfl rfl finS_p rfl
instance {ls : List (List Nat)} {p : Int} : PC Tryz.prog 80 [txs ls, .p (.i p)] (few ls) (bytesN (madeF ls (ofF ls) p) false) := ⟨Made_w ls p⟩
end Go.Proofs.YtclcfjejpogdlaaGreat.Cl
