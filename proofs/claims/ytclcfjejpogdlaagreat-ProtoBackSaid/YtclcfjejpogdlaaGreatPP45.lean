/- messages, the law ProtoBack; messages: reading them; ProtoBack over what was read -/
import Derived.Test.YtclcfjejpogdlaaGreatPP44
import Derived.Test.YtclcfjejpogdlaaGreatPP27
namespace Go.Proofs.YtclcfjejpogdlaaGreat.Wi
open Go Go.RowKit Go.Aw Go.Aw.Cart Go.Aw.Tree Go.Proofs.YtclcfjejpogdlaaGreat.Ca Go.Proofs.YtclcfjejpogdlaaGreat.Rg
set_option linter.unusedVariables false
set_option linter.unusedSimpArgs false
set_option maxRecDepth 8000
set_option maxHeartbeats 4000000
attribute [local irreducible] readM msgB rightM sameM greatM zeroM
instance alive26_i : PC Tryz.prog 24 [] True (.p (.b true)) := ⟨fun _ => alive26_w⟩
theorem mread_again {b : List Nat} (hb : okB b) (hl : b.length ≤ 1000000000) : ((readM b).2 = 0 ∧ rightM (readM b).1 = true ∧ msgB (readM b).1 = b ∧ MIn (readM b).1) ∨ readM b = (zeroM, 3) := by
  by_cases h : (readM b).2 = 0
  · obtain ⟨h1, h2⟩ := mread_can hb h
    exact .inl ⟨h, h2, h1.symm, readM_in hb hl⟩
  · exact .inr (readM_err h)
open V1
theorem protoBack_w (m n : Msg) (b : List Nat) (cut : Int) (hm : MGo m) (hn : MGo n) (hb : okB b) (hbl : b.length ≤ 9223372036854775807) : PCall Tryz.prog 5 [mV m, mV n, .p (.sl 1 (b.map bR) false), .p (.i cut)] (.p (.b true)) := by
  refine pcall_of Tryz.func5 rfl (fun w0 F S0 M0 => ?_)
  have h32 : (m.dig.map bcD).length = 32 := by rw [List.length_map]; exact hm.d32
  have k32 : (n.dig.map bcD).length = 32 := by rw [List.length_map]; exact hn.d32
  have z32 : (zeroM.dig.map bcD).length = 32 := by rw [List.length_map]; exact zeroM_in.d32
  have gm := great26_w m hm
  have gn := great26_w n hn
  have hbl2 : (b.length : Int) ≤ 9223372036854775807 := by omega
  cases hg : greatM m with
  | true =>
    rw [hg] at gm
    haveI : PC Tryz.prog 23 [mV m] True (.p (.b true)) := ⟨fun _ => gm⟩
    as_aux_lemma =>
      repeat' (first | refine rnC ?_ | refine rnSM ?_ | refine rnG ?_ | refine rnU ?_ | ((fail_if_success (refine rnKn ?_)); refine rnP ?_ ?_ <;> (intro hq; try (have hq' := hq; simp only [hqs] at hq'))) | refine rkC ?_ | refine rkSM ?_ | refine rkF ?_ | refine rkU ?_ | ((fail_if_success (refine rkKn ?_)); refine rkP ?_ ?_ <;> (intro hq; try (have hq' := hq; simp only [hqs] at hq'))) | refine stp ?_ | refine aws_draws [] mixed (by kernel_rfl) ?_ | refine ifT ?_ | refine ifF ?_ | (refine ifQ ?_ ?_ <;> (try (intro hn))) | (refine ifB ?_ ?_ <;> (intro hq; try (have hq' := hq; simp only [hqs] at hq'))))
      exact rt1 rfl rfl finS_p rfl
  | false =>
  rw [hg] at gm
  haveI j1 : PC Tryz.prog 23 [mV m] True (.p (.b false)) := ⟨fun _ => gm⟩
  cases hk : greatM n with
  | true =>
    rw [hk] at gn
    haveI : PC Tryz.prog 23 [mV n] True (.p (.b true)) := ⟨fun _ => gn⟩
    as_aux_lemma =>
      repeat' (first | refine rnC ?_ | refine rnSM ?_ | refine rnG ?_ | refine rnU ?_ | ((fail_if_success (refine rnKn ?_)); refine rnP ?_ ?_ <;> (intro hq; try (have hq' := hq; simp only [hqs] at hq'))) | refine rkC ?_ | refine rkSM ?_ | refine rkF ?_ | refine rkU ?_ | ((fail_if_success (refine rkKn ?_)); refine rkP ?_ ?_ <;> (intro hq; try (have hq' := hq; simp only [hqs] at hq'))) | refine stp ?_ | refine aws_draws [] mixed (by kernel_rfl) ?_ | refine ifT ?_ | refine ifF ?_ | (refine ifQ ?_ ?_ <;> (try (intro hn))) | (refine ifB ?_ ?_ <;> (intro hq; try (have hq' := hq; simp only [hqs] at hq'))))
      exact rt1 rfl rfl finS_p rfl
  | false =>
  rw [hk] at gn
  haveI j2 : PC Tryz.prog 23 [mV n] True (.p (.b false)) := ⟨fun _ => gn⟩
  by_cases hlb : 3000 < b.length
  · have d1 : decide (3000 < (b.length : Int)) = true := decide_eq_true (by omega)
    as_aux_lemma =>
      repeat' (first | refine rnC ?_ | refine rnSM ?_ | refine rnG ?_ | refine rnU ?_ | ((fail_if_success (refine rnKn ?_)); refine rnP ?_ ?_ <;> (intro hq; try (have hq' := hq; simp only [hqs] at hq'))) | refine rkC ?_ | refine rkSM ?_ | refine rkF ?_ | refine rkU ?_ | ((fail_if_success (refine rkKn ?_)); refine rkP ?_ ?_ <;> (intro hq; try (have hq' := hq; simp only [hqs] at hq'))) | refine stp ?_ | refine aws_draws [] mixed (by kernel_rfl) ?_ | refine ifT ?_ | refine ifF ?_ | (refine ifQ ?_ ?_ <;> (try (intro hn))) | (refine ifB ?_ ?_ <;> (intro hq; try (have hq' := hq; simp only [hqs] at hq'))))
      exact rt1 rfl rfl finS_p rfl
  have d1 : decide (3000 < (b.length : Int)) = false := decide_eq_false (by omega)
  have im := (min_of hm hg).1
  have jn := (min_of hn hk).1
  clear gm gn hm hn
  obtain ⟨A, hA⟩ : ∃ A, A = if rightM m = true then msgB m else [] := ⟨_, rfl⟩
  obtain ⟨e, he⟩ : ∃ e : Int, e = if rightM m = true then 0 else 3 := ⟨_, rfl⟩
  obtain ⟨B, hB⟩ : ∃ B, B = if rightM n = true then msgB n else [] := ⟨_, rfl⟩
  obtain ⟨q, hq⟩ : ∃ q : Int, q = if rightM n = true then 0 else 3 := ⟨_, rfl⟩
  have w1 : PCall Tryz.prog 26 [mV m] (.tup [.one (.p (.sl 1 (A.map bR) false)), .one (.p (.i e))]) := by
    rw [hA, he]
    cases hr : rightM m with
    | true => rw [if_pos rfl, if_pos rfl]; exact mwrite_ok m im hr
    | false => rw [if_neg (by decide), if_neg (by decide)]; exact mwrite_no m im hr
  have w2 : PCall Tryz.prog 26 [mV n] (.tup [.one (.p (.sl 1 (B.map bR) false)), .one (.p (.i q))]) := by
    rw [hB, hq]
    cases hr : rightM n with
    | true => rw [if_pos rfl, if_pos rfl]; exact mwrite_ok n jn hr
    | false => rw [if_neg (by decide), if_neg (by decide)]; exact mwrite_no n jn hr
  haveI j3 : PC Tryz.prog 26 [mV m] True (.tup [.one (.p (.sl 1 (A.map bR) false)), .one (.p (.i e))]) := ⟨fun _ => w1⟩
  haveI j4 : PC Tryz.prog 26 [mV n] True (.tup [.one (.p (.sl 1 (B.map bR) false)), .one (.p (.i q))]) := ⟨fun _ => w2⟩
  clear w1 w2
  repeat' (first | refine rnC ?_ | refine rnSM ?_ | refine rnG ?_ | refine rnU ?_ | refine rkC ?_ | refine rkSM ?_ | refine rkF ?_ | refine rkU ?_ | refine stp ?_ | refine ifT ?_ | refine ifF ?_ | fail)
  refine aws_mid (fun _ : Unit => True) (fun _ => [(2, .p (.sl 1 (b.map bR) false))]) (fun _ => [(19, (0, none))]) ?_ ?_
  · cases hr : rightM m with
    | false =>
      rw [hr, if_neg (by decide)] at he
      have d2 : decide (e = 0) = false := decide_eq_false (by omega)
      clear he hA hB hq
      as_aux_lemma =>
        repeat' (first | refine rnC ?_ | refine rnSM ?_ | refine rnG ?_ | refine rnU ?_ | ((fail_if_success (refine rnKn ?_)); refine rnP ?_ ?_ <;> (intro hq; try (have hq' := hq; simp only [hqs] at hq'))) | refine rkC ?_ | refine rkSM ?_ | refine rkF ?_ | refine rkU ?_ | ((fail_if_success (refine rkKn ?_)); refine rkP ?_ ?_ <;> (intro hq; try (have hq' := hq; simp only [hqs] at hq'))) | refine stp ?_ | refine aws_draws [] mixed (by kernel_rfl) ?_ | refine ifT ?_ | refine ifF ?_ | (refine ifQ ?_ ?_ <;> (try (intro hn))) | (refine ifB ?_ ?_ <;> (intro hq; try (have hq' := hq; simp only [hqs] at hq'))))
        exact ⟨(), trivial, by exact knA, by exact knA⟩
    | true =>
      rw [hr, if_pos rfl] at he hA
      subst he
      have okA : okB A := hA ▸ msgB_ok im
      have lA : A.length ≤ 60000000 := hA ▸ msgB_le im hr
      have c3 := mread_w A okA (by omega)
      have e3 : readM A = (m, 0) := hA ▸ mread_back im hr
      rw [e3] at c3
      haveI j5 : PC Tryz.prog 27 [.p (.sl 1 (A.map bR) false)] True (.tup [.agg (mL m), .one (.p (.i 0))]) := ⟨fun _ => c3⟩
      have ok0 : okB (A ++ [0]) := okB_app okA (fun c hc => by simp at hc; omega)
      have c4 := mread_w ((([] : List Nat) ++ A) ++ [0]) ok0 (by simp; omega)
      have e4 : readM ((([] : List Nat) ++ A) ++ [0]) = (zeroM, 3) := by
        show readM (A ++ [0]) = _
        rw [hA]
        rw [hA] at ok0
        exact mread_more im hr ok0 (by rw [List.length_append, ← hA]; simp; omega)
      rw [e4] at c4
      haveI j6 : PC Tryz.prog 27 [.p (.sl 1 (((([] : List Nat) ++ A) ++ [0]).map bR) false)] True (.tup [.agg (mL zeroM), .one (.p (.i 3))]) := ⟨fun _ => c4⟩
      have c5 := psame_w m m im im
      rw [sameM_refl] at c5
      haveI j7 : PC Tryz.prog 31 [mV m, mV m] True (.p (.b true)) := ⟨fun _ => c5⟩
      have c7 : cut < A.length → 0 ≤ cut → PC Tryz.prog 27 [.p (.sl 1 ((A.take cut.toNat).map bR) false)] True (.tup [.agg (mL zeroM), .one (.p (.i 3))]) := fun h1 h0 => by
        have c8 := mread_w (A.take cut.toNat) (fun c hc => okA c (List.mem_of_mem_take hc)) (by rw [List.length_take]; omega)
        have e8 : readM (A.take cut.toNat) = (zeroM, 3) := by
          have hlt : cut.toNat < A.length := by omega
          rw [hA] at hlt ⊢
          exact mread_cut im hr (hA ▸ okA) (by rw [← hA]; omega) hlt
        rw [e8] at c8
        exact ⟨fun _ => c8⟩
      clear c3 c4 c5 e3 e4 ok0
      have t0 : (!true) = false := rfl
      cases hs : rightM n with
      | false =>
        rw [hs, if_neg (by decide)] at hq
        have d2 : decide (q = 0) = false := decide_eq_false (by omega)
        clear hq hB hA
        by_cases h0 : 0 ≤ cut
        · have d3 : decide (0 ≤ cut) = true := decide_eq_true h0
          by_cases h1 : cut < A.length
          · have d4 : decide (cut < (A.length : Int)) = true := decide_eq_true h1
            haveI := c7 h1 h0
            as_aux_lemma =>
              repeat' (first | refine rnC ?_ | refine rnSM ?_ | refine rnG ?_ | refine rnU ?_ | ((fail_if_success (refine rnKn ?_)); refine rnP ?_ ?_ <;> (intro hq; try (have hq' := hq; simp only [hqs] at hq'))) | refine rkC ?_ | refine rkSM ?_ | refine rkF ?_ | refine rkU ?_ | ((fail_if_success (refine rkKn ?_)); refine rkP ?_ ?_ <;> (intro hq; try (have hq' := hq; simp only [hqs] at hq'))) | refine stp ?_ | refine aws_draws [] mixed (by kernel_rfl) ?_ | refine ifT ?_ | refine ifF ?_ | (refine ifQ ?_ ?_ <;> (try (intro hn))) | (refine ifB ?_ ?_ <;> (intro hq; try (have hq' := hq; simp only [hqs] at hq'))))
              exact ⟨(), trivial, by exact knA, by exact knA⟩
          · have d4 : decide (cut < (A.length : Int)) = false := decide_eq_false h1
            as_aux_lemma =>
              repeat' (first | refine rnC ?_ | refine rnSM ?_ | refine rnG ?_ | refine rnU ?_ | ((fail_if_success (refine rnKn ?_)); refine rnP ?_ ?_ <;> (intro hq; try (have hq' := hq; simp only [hqs] at hq'))) | refine rkC ?_ | refine rkSM ?_ | refine rkF ?_ | refine rkU ?_ | ((fail_if_success (refine rkKn ?_)); refine rkP ?_ ?_ <;> (intro hq; try (have hq' := hq; simp only [hqs] at hq'))) | refine stp ?_ | refine aws_draws [] mixed (by kernel_rfl) ?_ | refine ifT ?_ | refine ifF ?_ | (refine ifQ ?_ ?_ <;> (try (intro hn))) | (refine ifB ?_ ?_ <;> (intro hq; try (have hq' := hq; simp only [hqs] at hq'))))
              exact ⟨(), trivial, by exact knA, by exact knA⟩
        · have d3 : decide (0 ≤ cut) = false := decide_eq_false h0
          as_aux_lemma =>
            repeat' (first | refine rnC ?_ | refine rnSM ?_ | refine rnG ?_ | refine rnU ?_ | ((fail_if_success (refine rnKn ?_)); refine rnP ?_ ?_ <;> (intro hq; try (have hq' := hq; simp only [hqs] at hq'))) | refine rkC ?_ | refine rkSM ?_ | refine rkF ?_ | refine rkU ?_ | ((fail_if_success (refine rkKn ?_)); refine rkP ?_ ?_ <;> (intro hq; try (have hq' := hq; simp only [hqs] at hq'))) | refine stp ?_ | refine aws_draws [] mixed (by kernel_rfl) ?_ | refine ifT ?_ | refine ifF ?_ | (refine ifQ ?_ ?_ <;> (try (intro hn))) | (refine ifB ?_ ?_ <;> (intro hq; try (have hq' := hq; simp only [hqs] at hq'))))
            exact ⟨(), trivial, by exact knA, by exact knA⟩
      | true =>
        rw [hs, if_pos rfl] at hq hB
        subst hq
        have okB' : okB B := hB ▸ msgB_ok jn
        have c6 := psame_w m n im jn
        have e6 : sameM m n = decide (A = B) := by
          rw [Bool.eq_iff_iff, decide_eq_true_iff, sameM_iff, hA, hB]
          exact ⟨fun h => by rw [h], fun h => msgB_inj im hr jn hs h⟩
        rw [e6] at c6
        have c9 : ∀ b : Bool, decide (A = B) = b → PC Tryz.prog 31 [mV m, mV n] True (.p (.b b)) := fun b hb => ⟨fun _ => hb ▸ c6⟩
        clear c6 e6 hA hB
        obtain ⟨s, hab⟩ : ∃ s, decide (A = B) = s := ⟨_, rfl⟩
        have d5 : (decide (A = B) != s) = false := by rw [hab]; cases s <;> rfl
        haveI := c9 _ hab
        clear hab c9
        by_cases h0 : 0 ≤ cut
        · have d3 : decide (0 ≤ cut) = true := decide_eq_true h0
          by_cases h1 : cut < A.length
          · have d4 : decide (cut < (A.length : Int)) = true := decide_eq_true h1
            haveI := c7 h1 h0
            as_aux_lemma =>
              repeat' (first | refine rnC ?_ | refine rnSM ?_ | refine rnG ?_ | refine rnU ?_ | ((fail_if_success (refine rnKn ?_)); refine rnP ?_ ?_ <;> (intro hq; try (have hq' := hq; simp only [hqs] at hq'))) | refine rkC ?_ | refine rkSM ?_ | refine rkF ?_ | refine rkU ?_ | ((fail_if_success (refine rkKn ?_)); refine rkP ?_ ?_ <;> (intro hq; try (have hq' := hq; simp only [hqs] at hq'))) | refine stp ?_ | refine aws_draws [] mixed (by kernel_rfl) ?_ | refine ifT ?_ | refine ifF ?_ | (refine ifQ ?_ ?_ <;> (try (intro hn))) | (refine ifB ?_ ?_ <;> (intro hq; try (have hq' := hq; simp only [hqs] at hq'))))
              exact ⟨(), trivial, by exact knA, by exact knA⟩
          · have d4 : decide (cut < (A.length : Int)) = false := decide_eq_false h1
            as_aux_lemma =>
              repeat' (first | refine rnC ?_ | refine rnSM ?_ | refine rnG ?_ | refine rnU ?_ | ((fail_if_success (refine rnKn ?_)); refine rnP ?_ ?_ <;> (intro hq; try (have hq' := hq; simp only [hqs] at hq'))) | refine rkC ?_ | refine rkSM ?_ | refine rkF ?_ | refine rkU ?_ | ((fail_if_success (refine rkKn ?_)); refine rkP ?_ ?_ <;> (intro hq; try (have hq' := hq; simp only [hqs] at hq'))) | refine stp ?_ | refine aws_draws [] mixed (by kernel_rfl) ?_ | refine ifT ?_ | refine ifF ?_ | (refine ifQ ?_ ?_ <;> (try (intro hn))) | (refine ifB ?_ ?_ <;> (intro hq; try (have hq' := hq; simp only [hqs] at hq'))))
              exact ⟨(), trivial, by exact knA, by exact knA⟩
        · have d3 : decide (0 ≤ cut) = false := decide_eq_false h0
          as_aux_lemma =>
            repeat' (first | refine rnC ?_ | refine rnSM ?_ | refine rnG ?_ | refine rnU ?_ | ((fail_if_success (refine rnKn ?_)); refine rnP ?_ ?_ <;> (intro hq; try (have hq' := hq; simp only [hqs] at hq'))) | refine rkC ?_ | refine rkSM ?_ | refine rkF ?_ | refine rkU ?_ | ((fail_if_success (refine rkKn ?_)); refine rkP ?_ ?_ <;> (intro hq; try (have hq' := hq; simp only [hqs] at hq'))) | refine stp ?_ | refine aws_draws [] mixed (by kernel_rfl) ?_ | refine ifT ?_ | refine ifF ?_ | (refine ifQ ?_ ?_ <;> (try (intro hn))) | (refine ifB ?_ ?_ <;> (intro hq; try (have hq' := hq; simp only [hqs] at hq'))))
            exact ⟨(), trivial, by exact knA, by exact knA⟩
  rintro ⟨⟩ ν -
  clear j1 j2 j3 j4 hA hB he hq
  have c1 := mread_w b hb (by omega)
  rcases mread_again hb (by omega) with ⟨h0, hr, hbk, hin⟩ | h
  · obtain ⟨Y, hY⟩ : ∃ Y, Y = (readM b).1 := ⟨_, rfl⟩
    rw [h0, ← hY] at c1
    rw [← hY] at hr hbk hin
    haveI : PC Tryz.prog 27 [.p (.sl 1 (b.map bR) false)] True (.tup [.agg (mL Y), .one (.p (.i 0))]) := ⟨fun _ => c1⟩
    have c2 := mwrite_ok Y hin hr
    rw [hbk] at c2
    haveI : PC Tryz.prog 26 [mV Y] True (.tup [.one (.p (.sl 1 (b.map bR) false)), .one (.p (.i 0))]) := ⟨fun _ => c2⟩
    have hy32 : (Y.dig.map bcD).length = 32 := by rw [List.length_map]; exact hin.d32
    have db : decide (b = b) = true := decide_eq_true rfl
    clear c1 c2 hin hbk hY h0
    as_aux_lemma =>
      repeat' (first | refine rnC ?_ | refine rnSM ?_ | refine rnG ?_ | refine rnU ?_ | ((fail_if_success (refine rnKn ?_)); refine rnP ?_ ?_ <;> (intro hq; try (have hq' := hq; simp only [hqs] at hq'))) | refine rkC ?_ | refine rkSM ?_ | refine rkF ?_ | refine rkU ?_ | ((fail_if_success (refine rkKn ?_)); refine rkP ?_ ?_ <;> (intro hq; try (have hq' := hq; simp only [hqs] at hq'))) | refine stp ?_ | refine aws_draws [] mixed (by kernel_rfl) ?_ | refine ifT ?_ | refine ifF ?_ | (refine ifQ ?_ ?_ <;> (try (intro hn))) | (refine ifB ?_ ?_ <;> (intro hq; try (have hq' := hq; simp only [hqs] at hq'))))
      exact rt1 rfl rfl finS_p (rb (decide_eq_true rfl).symm)
  · rw [h] at c1
    haveI : PC Tryz.prog 27 [.p (.sl 1 (b.map bR) false)] True (.tup [.agg (mL zeroM), .one (.p (.i 3))]) := ⟨fun _ => c1⟩
    have c2 := mwrite_no zeroM zeroM_in zeroM_no
    haveI : PC Tryz.prog 26 [mV zeroM] True (.tup [.one (.p (.sl 1 (([] : List Nat).map bR) false)), .one (.p (.i 3))]) := ⟨fun _ => c2⟩
    have hy32 : (zeroM.dig.map bcD).length = 32 := by rw [List.length_map]; exact zeroM_in.d32
    clear c1 c2 h
    as_aux_lemma =>
      repeat' (first | refine rnC ?_ | refine rnSM ?_ | refine rnG ?_ | refine rnU ?_ | ((fail_if_success (refine rnKn ?_)); refine rnP ?_ ?_ <;> (intro hq; try (have hq' := hq; simp only [hqs] at hq'))) | refine rkC ?_ | refine rkSM ?_ | refine rkF ?_ | refine rkU ?_ | ((fail_if_success (refine rkKn ?_)); refine rkP ?_ ?_ <;> (intro hq; try (have hq' := hq; simp only [hqs] at hq'))) | refine stp ?_ | refine aws_draws [] mixed (by kernel_rfl) ?_ | refine ifT ?_ | refine ifF ?_ | (refine ifQ ?_ ?_ <;> (try (intro hn))) | (refine ifB ?_ ?_ <;> (intro hq; try (have hq' := hq; simp only [hqs] at hq'))))
      exact rt1 rfl rfl finS_p rfl
end Go.Proofs.YtclcfjejpogdlaaGreat.Wi
namespace Go.Proofs.YtclcfjejpogdlaaGreat.Wi
open Go Go.RowKit Go.Aw Go.Aw.Cart Go.Aw.Tree Go.Proofs.YtclcfjejpogdlaaGreat.Ca Go.Proofs.YtclcfjejpogdlaaGreat.Rg
set_option linter.unusedVariables false
set_option maxRecDepth 8000
theorem rd_digP : Reads Tryz.prog 31 (List Nat) dRw (fun d => d.length = 32 ∧ okB d) :=
  (reads_array (α := Int) (row := fun n => [PVal.k .u8 n]) (ok := fun n => IntKind.u8.min ≤ n ∧ n ≤ IntKind.u8.max) (inferInstance : TI Tryz.prog 31 _ _ _) (inferInstance : TI Tryz.prog 5 _ _ _) rfl (reads_int inferInstance)).imp' (fun l => l.map Int.toNat)
    (fun l h => by
      have e : dRw (l.map Int.toNat) = l.map fun n => PVal.k .u8 n := u8s_map (f := fun n => PVal.k .u8 n) h.2
      rw [e]
      clear h e
      induction l with
      | nil => rfl
      | cons b l ih => simp [ih]) (fun l h => ⟨by simpa using h.1, u8s_ok h.2⟩)
theorem rd_digsP : Reads Tryz.prog 41 (List (List Nat)) (fun l => [.sl 32 (l.map dRw) false]) (fun l => l.length ≤ maxLen ∧ ∀ d ∈ l, d.length = 32 ∧ okB d) :=
  reads_slice inferInstance inferInstance (by decide) rd_digP
theorem rd_intsP : Reads Tryz.prog 33 (List Int) (fun l => [.sl 1 (l.map iRw) false]) (fun l => l.length ≤ maxLen ∧ ∀ n ∈ l, IntKind.i64.min ≤ n ∧ n ≤ IntKind.i64.max) :=
  reads_slice inferInstance inferInstance (by decide) (reads_int inferInstance)
theorem lenM {α : Type} {l : List α} (h : l.length ≤ maxLen) : l.length ≤ 9223372036854775807 := by simpa [maxLen] using h
def mRow (m : Msg) : List PVal := [PVal.i m.kind, PVal.i m.frm, PVal.i m.to, PVal.i m.ses, PVal.i m.part] ++ (dRw m.dig ++ [.sl 1 (m.pls.map iRw) false, .sl 32 (m.dgs.map dRw) false, .sl 10 (m.kds.map kR) false])
def toM (x : Int × Int × Int × Int × Int × List Nat × List Int × List (List Nat) × List Kd × Unit) : Msg := ⟨x.1, x.2.1, x.2.2.1, x.2.2.2.1, x.2.2.2.2.1, x.2.2.2.2.2.1, x.2.2.2.2.2.2.1, x.2.2.2.2.2.2.2.1, x.2.2.2.2.2.2.2.2.1⟩
theorem rd_msg : Reads Tryz.prog 43 Msg mRow MGo :=
  (reads_struct (inferInstance : TI Tryz.prog 43 _ _ _)
    (readsFs_cons (inferInstance : TI Tryz.prog 3 _ _ _) Ca.rd_int (readsFs_cons (inferInstance : TI Tryz.prog 3 _ _ _) Ca.rd_int (readsFs_cons (inferInstance : TI Tryz.prog 3 _ _ _) Ca.rd_int (readsFs_cons (inferInstance : TI Tryz.prog 3 _ _ _) Ca.rd_int (readsFs_cons (inferInstance : TI Tryz.prog 3 _ _ _) Ca.rd_int
    (readsFs_cons (inferInstance : TI Tryz.prog 31 _ _ _) rd_digP (readsFs_cons (inferInstance : TI Tryz.prog 33 _ _ _) rd_intsP (readsFs_cons (inferInstance : TI Tryz.prog 41 _ _ _) rd_digsP (readsFs_cons (inferInstance : TI Tryz.prog 22 _ _ _) rd_kds (readsFs_nil rfl))))))))))).imp'
    toM (fun x _ => rfl) (fun x h => by
      obtain ⟨_, _, _, _, _, h6, h7, h8, h9, _⟩ := h
      exact ⟨h6.1, h6.2, lenM h7.1, lenM h8.1, h8.2, lenM h9.1, h9.2⟩)
theorem m_arg (m : Msg) : argAV true (mRow m) = mV m := by
  show AV.a ((mRow m).map .p) = _
  unfold mRow
  simp only [List.map_cons, List.map_append, List.map_nil, List.cons_append, List.nil_append]
  show AV.a (_ :: _ :: _ :: _ :: _ :: ((m.dig.map _).map _ ++ _)) = _
  rw [List.map_map]; rfl
theorem protoBack_a (m n : Msg) (b : List Nat) (cut : Int) (hm : MGo m) (hn : MGo n) (hb : okB b ∧ b.length ≤ 9223372036854775807) : PCall Tryz.prog 5 [argAV true (mRow m), argAV true (mRow n), argAV false [.sl 1 (b.map bR) false], argAV false [PVal.k .i64 cut]] (.p (.b true)) := by
  rw [m_arg, m_arg]
  exact protoBack_w m n b cut hm hn hb.1 hb.2
end Go.Proofs.YtclcfjejpogdlaaGreat.Wi
