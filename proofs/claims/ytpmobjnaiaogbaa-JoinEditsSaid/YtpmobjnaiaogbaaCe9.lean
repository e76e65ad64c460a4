/- edits, the laws: JoinEdits -/
import Derived.Test.YtpmobjnaiaogbaaCe3
import Derived.Test.YtpmobjnaiaogbaaCe5
import Derived.Test.YtpmobjnaiaogbaaCj5
namespace Go.Proofs.Ytpmobjnaiaogbaa.Ca
open Go Go.RowKit Go.Aw Go.Aw.Cart Go.Aw.Ord Go.Sort
set_option linter.unusedVariables false
set_option linter.unusedSimpArgs false
set_option maxRecDepth 8000
set_option maxHeartbeats 4000000
/-- what JoinEdits needs of an op that was done -/
structure Onto (c d : Crt) : Prop where
  len : d.1.length = 8
  pos : ∀ n ∈ d.1, 0 ≤ n
  few : d.2.length ≤ 400
  is : twoF c d = (d, 0)
  cov : coversF d c = true
  not : coversF c d = false
  all : ∀ b : Crt, b.1.length = 8 → coversF c b = true → twoF d b = (d, 0) ∧ clashF d b = false
theorem onto_of {c : Crt} {nd : Int} {o : Op3} (hc : c.1.length = 8) (hb : ∀ n ∈ c.1, 0 ≤ n ∧ n < 18446744073709551616) (h : (doF c nd o).2 = 0) : Onto c (doF c nd o).1.1 := by
  have d := did h
  have k := d.over hc hb
  refine ⟨k.ld, fun n hn => (d.bnd hb n hn).1, k.od.few, k.is, k.cov, d.turns hc hb, fun b hb8 hcb => ?_⟩
  have q := (over_of hc hb8 hcb).trans k
  exact ⟨q.is2, clash_of fun e he f hf hd => (q.nc f hf e he hd.symm).symm⟩
open J3
theorem joinEdits_w (v w : List Int) (l m : List Ent) (ex ey : Bool) (nd : Int) (o : Op3) (hv : v.length = 8) (hw : w.length = 8) (hb : ∀ n ∈ v, 0 ≤ n ∧ n < 18446744073709551616) : PCall Try.prog 12 [cV v l ex, cV w m ey, .p (.i nd), opV o] (.p (.b true)) := by
  refine pcall_of Try.func12 rfl (fun w0 F S0 M0 => ?_)
  by_cases hg : 60 < l.length
  · have d1 : decide (60 < (l.length : Int)) = true := decide_eq_true (by omega)
    as_aux_lemma =>
      repeat' (first
          | refine rnC ?_
          | refine rnSB ?_
          | refine rnG ?_
          | refine rnU ?_
          | ((fail_if_success (refine rnKn ?_)); refine rnP ?_ ?_ <;> (intro hq; try (have hq' := hq; simp only [hqs] at hq')))
          | refine rkC ?_
          | refine rkSB ?_
          | refine rkF ?_
          | refine rkU ?_
          | ((fail_if_success (refine rkKn ?_)); refine rkP ?_ ?_ <;> (intro hq; try (have hq' := hq; simp only [hqs] at hq')))
          | refine stp ?_
          | refine aws_draws [] mixed (by kernel_rfl) ?_
          | refine ifT ?_
          | refine ifF ?_
          | (refine ifQ ?_ ?_ <;> (try (intro hn)))
          | (refine ifB ?_ ?_ <;> (intro hq; try (have hq' := hq; simp only [hqs] at hq'))))
      exact rt1 rfl rfl finS_p rfl
  · have d1 : decide (60 < (l.length : Int)) = false := decide_eq_false (by omega)
    by_cases hk : 60 < m.length
    · have d2 : decide (60 < (m.length : Int)) = true := decide_eq_true (by omega)
      as_aux_lemma =>
        repeat' (first
            | refine rnC ?_
            | refine rnSB ?_
            | refine rnG ?_
            | refine rnU ?_
            | ((fail_if_success (refine rnKn ?_)); refine rnP ?_ ?_ <;> (intro hq; try (have hq' := hq; simp only [hqs] at hq')))
            | refine rkC ?_
            | refine rkSB ?_
            | refine rkF ?_
            | refine rkU ?_
            | ((fail_if_success (refine rkKn ?_)); refine rkP ?_ ?_ <;> (intro hq; try (have hq' := hq; simp only [hqs] at hq')))
            | refine stp ?_
            | refine aws_draws [] mixed (by kernel_rfl) ?_
            | refine ifT ?_
            | refine ifF ?_
            | (refine ifQ ?_ ?_ <;> (try (intro hn)))
            | (refine ifB ?_ ?_ <;> (intro hq; try (have hq' := hq; simp only [hqs] at hq'))))
        exact rt1 rfl rfl finS_p rfl
    · have d2 : decide (60 < (m.length : Int)) = false := decide_eq_false (by omega)
      have hl2 : l.length ≤ 1000000000 := by omega
      have hm2 : m.length ≤ 1000000000 := by omega
      have h0 : ∀ n ∈ v, 0 ≤ n := fun n hn => (hb n hn).1
      have cd := do_w v l ex nd o hv hb (by omega)
      have ON := @onto_of (v, l) nd o hv hb
      generalize doF (v, l) nd o = r at cd ON
      obtain ⟨⟨⟨dv, dl⟩, x⟩, e⟩ := r
      dsimp only at cd ON
      haveI : PC Try.prog 31 [cV v l ex, .p (.i nd), opV o] True (.tup [.agg (cL dv dl false), .agg (xL x), .one (.p (.i e))]) := ⟨fun _ => cd⟩
      clear cd
      by_cases he : e = 0
      · have d3 : decide (e ≠ 0) = false := decide_eq_false fun q => q he
        obtain ⟨g1, g2, g3, g4, g5, g6, g7⟩ := ON he
        clear ON
        dsimp only at g1 g2 g3
        have hd1 : dl.length ≤ 100000000 := by omega
        have hd2 : dl.length ≤ 1000000000 := by omega
        have c1 := two_w v dv l dl ex false hv g1 h0 (by omega) hd1
        rw [g4] at c1
        haveI : PC Try.prog 23 [cV v l ex, cV dv dl false] True (.tup [.agg (cL dv dl false), .one (.p (.i 0))]) := ⟨fun _ => c1⟩
        have c2 := covers_w dv v dl l false ex g1 hv g2 hd1 (by omega)
        rw [g5] at c2
        haveI : PC Try.prog 25 [cV dv dl false, cV v l ex] True (.p (.b true)) := ⟨fun _ => c2⟩
        have c3 := covers_w v dv l dl ex false hv g1 h0 (by omega) hd1
        rw [g6] at c3
        haveI : PC Try.prog 25 [cV v l ex, cV dv dl false] True (.p (.b false)) := ⟨fun _ => c3⟩
        have c4 := same_w dv dv dl dl false false g1 g1 hd2
        rw [show sameF dv dv dl dl = true by simp [sameF]] at c4
        haveI : PC Try.prog 16 [cV dv dl false, cV dv dl false] True (.p (.b true)) := ⟨fun _ => c4⟩
        have c5 := covers_w v w l m ex ey hv hw h0 (by omega) (by omega)
        have G7 := g7 (w, m) hw
        clear c1 c2 c3 c4 g7
        cases hcv : coversF (v, l) (w, m) with
        | false =>
          rw [hcv] at c5
          haveI : PC Try.prog 25 [cV v l ex, cV w m ey] True (.p (.b false)) := ⟨fun _ => c5⟩
          as_aux_lemma =>
            repeat' (first
                | refine rnC ?_
                | refine rnSB ?_
                | refine rnG ?_
                | refine rnU ?_
                | ((fail_if_success (refine rnKn ?_)); refine rnP ?_ ?_ <;> (intro hq; try (have hq' := hq; simp only [hqs] at hq')))
                | refine rkC ?_
                | refine rkSB ?_
                | refine rkF ?_
                | refine rkU ?_
                | ((fail_if_success (refine rkKn ?_)); refine rkP ?_ ?_ <;> (intro hq; try (have hq' := hq; simp only [hqs] at hq')))
                | refine stp ?_
                | refine aws_draws [] mixed (by kernel_rfl) ?_
                | refine ifT ?_
                | refine ifF ?_
                | (refine ifQ ?_ ?_ <;> (try (intro hn)))
                | (refine ifB ?_ ?_ <;> (intro hq; try (have hq' := hq; simp only [hqs] at hq'))))
            exact rt1 rfl rfl finS_p rfl
        | true =>
          rw [hcv] at c5
          haveI : PC Try.prog 25 [cV v l ex, cV w m ey] True (.p (.b true)) := ⟨fun _ => c5⟩
          obtain ⟨q1, q2⟩ := G7 hcv
          have c6 := two_w dv w dl m false ey g1 hw g2 hd1 (by omega)
          rw [q1] at c6
          haveI : PC Try.prog 23 [cV dv dl false, cV w m ey] True (.tup [.agg (cL dv dl false), .one (.p (.i 0))]) := ⟨fun _ => c6⟩
          have c7 := clash_w dv w dl m false ey hd2 hm2
          rw [q2] at c7
          as_aux_lemma =>
            repeat' (first
                | refine rnC ?_
                | refine rnSB ?_
                | refine rnG ?_
                | refine rnU ?_
                | ((fail_if_success (refine rnKn ?_)); refine rnP ?_ ?_ <;> (intro hq; try (have hq' := hq; simp only [hqs] at hq')))
                | refine rkC ?_
                | refine rkSB ?_
                | refine rkF ?_
                | refine rkU ?_
                | ((fail_if_success (refine rkKn ?_)); refine rkP ?_ ?_ <;> (intro hq; try (have hq' := hq; simp only [hqs] at hq')))
                | refine stp ?_
                | refine aws_draws [] mixed (by kernel_rfl) ?_
                | refine ifT ?_
                | refine ifF ?_
                | (refine ifQ ?_ ?_ <;> (try (intro hn)))
                | (refine ifB ?_ ?_ <;> (intro hq; try (have hq' := hq; simp only [hqs] at hq'))))
            exact rt1 rfl rfl finS_p rfl
      · have d3 : decide (e ≠ 0) = true := decide_eq_true he
        as_aux_lemma =>
          repeat' (first
              | refine rnC ?_
              | refine rnSB ?_
              | refine rnG ?_
              | refine rnU ?_
              | ((fail_if_success (refine rnKn ?_)); refine rnP ?_ ?_ <;> (intro hq; try (have hq' := hq; simp only [hqs] at hq')))
              | refine rkC ?_
              | refine rkSB ?_
              | refine rkF ?_
              | refine rkU ?_
              | ((fail_if_success (refine rkKn ?_)); refine rkP ?_ ?_ <;> (intro hq; try (have hq' := hq; simp only [hqs] at hq')))
              | refine stp ?_
              | refine aws_draws [] mixed (by kernel_rfl) ?_
              | refine ifT ?_
              | refine ifF ?_
              | (refine ifQ ?_ ?_ <;> (try (intro hn)))
              | (refine ifB ?_ ?_ <;> (intro hq; try (have hq' := hq; simp only [hqs] at hq'))))
          exact rt1 rfl rfl finS_p rfl
end Go.Proofs.Ytpmobjnaiaogbaa.Ca
