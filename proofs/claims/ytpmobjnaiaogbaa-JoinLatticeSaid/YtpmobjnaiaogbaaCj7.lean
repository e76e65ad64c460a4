/- joins, the laws: JoinLattice -/
import Derived.Test.YtpmobjnaiaogbaaCj5
import Derived.Test.YtpmobjnaiaogbaaCaV
namespace Go.Proofs.Ytpmobjnaiaogbaa.Ca
open Go Go.RowKit Go.Aw Go.Aw.Cart Go.Aw.Ord Go.Sort
set_option linter.unusedVariables false
set_option linter.unusedSimpArgs false
set_option maxRecDepth 8000
set_option maxHeartbeats 4000000
/-- what is known of a join -/
structure Lat (a b c L J : Crt) : Prop where
  l1 : twoF b c = (L, 0)
  l2 : twoF a L = (J, 0)
  j1 : allF [a, b, c] 3 = (J, 0)
  j2 : allF [c, b, a] 3 = (J, 0)
  j3 : allF [J, b, J, a] 4 = (J, 0)
  r : rightF J.1 J.2 = true
  ca : coversF J a = true
  cb : coversF J b = true
  cc : coversF J c = true
  o : orderF a a = 0
  lv : L.1.length = 8
  jv : J.1.length = 8
  lp : ∀ n ∈ L.1, 0 ≤ n
  jp : ∀ n ∈ J.1, 0 ≤ n
  lf : L.2.length ≤ 400
  jf : J.2.length ≤ 400
theorem lattice {U : List Ent} (hU : Uni U) {a b c : Crt} (ha : In U a) (hb : In U b) (hc : In U c) : ∃ L J, Lat a b c L J := by
  have hbc := hb.join hU hc
  have hab := ha.join hU hb
  have hJ := ha.join hU hbc
  have e1 := join_assoc hU ha hb hc
  have e2 := join_comm hU hb hc
  refine ⟨(twoF b c).1, (twoF a (twoF b c).1).1, ?_⟩
  have ja : (twoF (twoF a (twoF b c).1).1 a).1 = (twoF a (twoF b c).1).1 := join_left hU ha hbc
  have jbc : (twoF (twoF a (twoF b c).1).1 (twoF b c).1).1 = (twoF a (twoF b c).1).1 := join_right hU ha hbc
  have jb : (twoF (twoF a (twoF b c).1).1 b).1 = (twoF a (twoF b c).1).1 := by
    rw [← e1, join_assoc hU hab hc hb, join_comm hU hc hb, ← join_assoc hU hab hb hc, join_right hU ha hb]
  have jc : (twoF (twoF a (twoF b c).1).1 c).1 = (twoF a (twoF b c).1).1 := by
    rw [← e1, join_right hU hab hc]
  exact {
    l1 := Prod.ext rfl (hb.err hU hc)
    l2 := Prod.ext rfl (ha.err hU hbc)
    j1 := by rw [all_3 hU ha hb hc, e1]
    j2 := by rw [all_3 hU hc hb ha, join_comm hU (hc.join hU hb) ha, join_comm hU hc hb]
    j3 := by rw [all_4 hU hJ hb hJ ha, jb, join_self hU hJ, ja]
    r := ok_iff.2 hJ.ok
    ca := covers_of hU hJ ha ja
    cb := covers_of hU hJ hb jb
    cc := covers_of hU hJ hc jc
    o := by
      have := covers_of hU ha ha (join_self hU ha)
      unfold orderF; rw [this]; rfl
    lv := hbc.v8
    jv := hJ.v8
    lp := hbc.pos
    jp := hJ.pos
    lf := hbc.ok.few
    jf := hJ.ok.few }
theorem uni3 {a b c : Crt} (ha : Ok a.1 a.2) (hb : Ok b.1 b.2) (hc : Ok c.1 c.2) (h1 : clashF a b = false) (h2 : clashF b c = false) (h3 : clashF a c = false) (l1 : a.2.length ≤ 60) (l2 : b.2.length ≤ 60) (l3 : c.2.length ≤ 60) : Uni (a.2 ++ (b.2 ++ c.2)) where
  one e he f hf hd := by
    rw [List.mem_append, List.mem_append] at he hf
    rcases he with he | he | he <;> rcases hf with hf | hf | hf
    · exact ha.one e he f hf hd
    · exact clash_not h1 e he f hf hd
    · exact clash_not h3 e he f hf hd
    · exact (clash_not h1 f hf e he hd.symm).symm
    · exact hb.one e he f hf hd
    · exact clash_not h2 e he f hf hd
    · exact (clash_not h3 f hf e he hd.symm).symm
    · exact (clash_not h2 f hf e he hd.symm).symm
    · exact hc.one e he f hf hd
  few := by rw [List.length_append, List.length_append]; omega
open J3
theorem joinLattice_w (av bv cv : List Int) (al bl cl : List Ent) (ha : av.length = 8) (hb : bv.length = 8) (hc : cv.length = 8) (pa : ∀ n ∈ av, 0 ≤ n) (pb : ∀ n ∈ bv, 0 ≤ n) (pc : ∀ n ∈ cv, 0 ≤ n) : PCall Try.prog 6 [cV av al false, cV bv bl false, cV cv cl false] (.p (.b true)) := by
  refine pcall_of Try.func6 rfl (fun w0 F S0 M0 => ?_)
  by_cases ga : 60 < al.length
  · have dga : decide (60 < (al.length : Int)) = true := decide_eq_true (by omega)
    as_aux_lemma =>
      repeat' (first
          | refine rnC ?_
          | refine rnSB ?_
          | refine rnG ?_
          | refine rnU ?_
          | ((fail_if_success (refine rnKn ?_)); refine rnP ?_ ?_ <;> (intro hq; try (have hq' := hq; simp only [hqs] at hq')))
          | refine rkC ?_
          | refine rkSB ?_
          | refine rkF ?_
          | refine rkU ?_
          | ((fail_if_success (refine rkKn ?_)); refine rkP ?_ ?_ <;> (intro hq; try (have hq' := hq; simp only [hqs] at hq')))
          | refine stp ?_
          | refine aws_draws [] mixed (by kernel_rfl) ?_
          | refine ifT ?_
          | refine ifF ?_
          | (refine ifQ ?_ ?_ <;> (try (intro hn)))
          | (refine ifB ?_ ?_ <;> (intro hq; try (have hq' := hq; simp only [hqs] at hq'))))
      exact rt1 rfl rfl finS_p rfl
  · have dga : decide (60 < (al.length : Int)) = false := decide_eq_false (by omega)
    have na : al.length ≤ 1000000000 := by omega
    have ma : al.length ≤ 100000000 := by omega
    by_cases gb : 60 < bl.length
    · have dgb : decide (60 < (bl.length : Int)) = true := decide_eq_true (by omega)
      as_aux_lemma =>
        repeat' (first
            | refine rnC ?_
            | refine rnSB ?_
            | refine rnG ?_
            | refine rnU ?_
            | ((fail_if_success (refine rnKn ?_)); refine rnP ?_ ?_ <;> (intro hq; try (have hq' := hq; simp only [hqs] at hq')))
            | refine rkC ?_
            | refine rkSB ?_
            | refine rkF ?_
            | refine rkU ?_
            | ((fail_if_success (refine rkKn ?_)); refine rkP ?_ ?_ <;> (intro hq; try (have hq' := hq; simp only [hqs] at hq')))
            | refine stp ?_
            | refine aws_draws [] mixed (by kernel_rfl) ?_
            | refine ifT ?_
            | refine ifF ?_
            | (refine ifQ ?_ ?_ <;> (try (intro hn)))
            | (refine ifB ?_ ?_ <;> (intro hq; try (have hq' := hq; simp only [hqs] at hq'))))
        exact rt1 rfl rfl finS_p rfl
    · have dgb : decide (60 < (bl.length : Int)) = false := decide_eq_false (by omega)
      have nb : bl.length ≤ 1000000000 := by omega
      have mb : bl.length ≤ 100000000 := by omega
      by_cases gc : 60 < cl.length
      · have dgc : decide (60 < (cl.length : Int)) = true := decide_eq_true (by omega)
        as_aux_lemma =>
          repeat' (first
              | refine rnC ?_
              | refine rnSB ?_
              | refine rnG ?_
              | refine rnU ?_
              | ((fail_if_success (refine rnKn ?_)); refine rnP ?_ ?_ <;> (intro hq; try (have hq' := hq; simp only [hqs] at hq')))
              | refine rkC ?_
              | refine rkSB ?_
              | refine rkF ?_
              | refine rkU ?_
              | ((fail_if_success (refine rkKn ?_)); refine rkP ?_ ?_ <;> (intro hq; try (have hq' := hq; simp only [hqs] at hq')))
              | refine stp ?_
              | refine aws_draws [] mixed (by kernel_rfl) ?_
              | refine ifT ?_
              | refine ifF ?_
              | (refine ifQ ?_ ?_ <;> (try (intro hn)))
              | (refine ifB ?_ ?_ <;> (intro hq; try (have hq' := hq; simp only [hqs] at hq'))))
          exact rt1 rfl rfl finS_p rfl
      · have dgc : decide (60 < (cl.length : Int)) = false := decide_eq_false (by omega)
        have nc : cl.length ≤ 1000000000 := by omega
        have mc : cl.length ≤ 100000000 := by omega
        cases ra : rightF av al with
        | false =>
          have dra : (!rightF av al) = true := by rw [ra]; rfl
          as_aux_lemma =>
            repeat' (first
                | refine rnC ?_
                | refine rnSB ?_
                | refine rnG ?_
                | refine rnU ?_
                | ((fail_if_success (refine rnKn ?_)); refine rnP ?_ ?_ <;> (intro hq; try (have hq' := hq; simp only [hqs] at hq')))
                | refine rkC ?_
                | refine rkSB ?_
                | refine rkF ?_
                | refine rkU ?_
                | ((fail_if_success (refine rkKn ?_)); refine rkP ?_ ?_ <;> (intro hq; try (have hq' := hq; simp only [hqs] at hq')))
                | refine stp ?_
                | refine aws_draws [] mixed (by kernel_rfl) ?_
                | refine ifT ?_
                | refine ifF ?_
                | (refine ifQ ?_ ?_ <;> (try (intro hn)))
                | (refine ifB ?_ ?_ <;> (intro hq; try (have hq' := hq; simp only [hqs] at hq'))))
            exact rt1 rfl rfl finS_p rfl
        | true =>
          have dra : (!rightF av al) = false := by rw [ra]; rfl
          cases rb : rightF bv bl with
          | false =>
            have drb : (!rightF bv bl) = true := by rw [rb]; rfl
            as_aux_lemma =>
              repeat' (first
                  | refine rnC ?_
                  | refine rnSB ?_
                  | refine rnG ?_
                  | refine rnU ?_
                  | ((fail_if_success (refine rnKn ?_)); refine rnP ?_ ?_ <;> (intro hq; try (have hq' := hq; simp only [hqs] at hq')))
                  | refine rkC ?_
                  | refine rkSB ?_
                  | refine rkF ?_
                  | refine rkU ?_
                  | ((fail_if_success (refine rkKn ?_)); refine rkP ?_ ?_ <;> (intro hq; try (have hq' := hq; simp only [hqs] at hq')))
                  | refine stp ?_
                  | refine aws_draws [] mixed (by kernel_rfl) ?_
                  | refine ifT ?_
                  | refine ifF ?_
                  | (refine ifQ ?_ ?_ <;> (try (intro hn)))
                  | (refine ifB ?_ ?_ <;> (intro hq; try (have hq' := hq; simp only [hqs] at hq'))))
              exact rt1 rfl rfl finS_p rfl
          | true =>
            have drb : (!rightF bv bl) = false := by rw [rb]; rfl
            cases rc : rightF cv cl with
            | false =>
              have drc : (!rightF cv cl) = true := by rw [rc]; rfl
              as_aux_lemma =>
                repeat' (first
                    | refine rnC ?_
                    | refine rnSB ?_
                    | refine rnG ?_
                    | refine rnU ?_
                    | ((fail_if_success (refine rnKn ?_)); refine rnP ?_ ?_ <;> (intro hq; try (have hq' := hq; simp only [hqs] at hq')))
                    | refine rkC ?_
                    | refine rkSB ?_
                    | refine rkF ?_
                    | refine rkU ?_
                    | ((fail_if_success (refine rkKn ?_)); refine rkP ?_ ?_ <;> (intro hq; try (have hq' := hq; simp only [hqs] at hq')))
                    | refine stp ?_
                    | refine aws_draws [] mixed (by kernel_rfl) ?_
                    | refine ifT ?_
                    | refine ifF ?_
                    | (refine ifQ ?_ ?_ <;> (try (intro hn)))
                    | (refine ifB ?_ ?_ <;> (intro hq; try (have hq' := hq; simp only [hqs] at hq'))))
                exact rt1 rfl rfl finS_p rfl
            | true =>
              have drc : (!rightF cv cl) = false := by rw [rc]; rfl
              cases kab : clashF (av, al) (bv, bl) with
              | true =>
                as_aux_lemma =>
                  repeat' (first
                      | refine rnC ?_
                      | refine rnSB ?_
                      | refine rnG ?_
                      | refine rnU ?_
                      | ((fail_if_success (refine rnKn ?_)); refine rnP ?_ ?_ <;> (intro hq; try (have hq' := hq; simp only [hqs] at hq')))
                      | refine rkC ?_
                      | refine rkSB ?_
                      | refine rkF ?_
                      | refine rkU ?_
                      | ((fail_if_success (refine rkKn ?_)); refine rkP ?_ ?_ <;> (intro hq; try (have hq' := hq; simp only [hqs] at hq')))
                      | refine stp ?_
                      | refine aws_draws [] mixed (by kernel_rfl) ?_
                      | refine ifT ?_
                      | refine ifF ?_
                      | (refine ifQ ?_ ?_ <;> (try (intro hn)))
                      | (refine ifB ?_ ?_ <;> (intro hq; try (have hq' := hq; simp only [hqs] at hq'))))
                  exact rt1 rfl rfl finS_p rfl
              | false =>
                cases kbc : clashF (bv, bl) (cv, cl) with
                | true =>
                  as_aux_lemma =>
                    repeat' (first
                        | refine rnC ?_
                        | refine rnSB ?_
                        | refine rnG ?_
                        | refine rnU ?_
                        | ((fail_if_success (refine rnKn ?_)); refine rnP ?_ ?_ <;> (intro hq; try (have hq' := hq; simp only [hqs] at hq')))
                        | refine rkC ?_
                        | refine rkSB ?_
                        | refine rkF ?_
                        | refine rkU ?_
                        | ((fail_if_success (refine rkKn ?_)); refine rkP ?_ ?_ <;> (intro hq; try (have hq' := hq; simp only [hqs] at hq')))
                        | refine stp ?_
                        | refine aws_draws [] mixed (by kernel_rfl) ?_
                        | refine ifT ?_
                        | refine ifF ?_
                        | (refine ifQ ?_ ?_ <;> (try (intro hn)))
                        | (refine ifB ?_ ?_ <;> (intro hq; try (have hq' := hq; simp only [hqs] at hq'))))
                    exact rt1 rfl rfl finS_p rfl
                | false =>
                  cases kac : clashF (av, al) (cv, cl) with
                  | true =>
                    as_aux_lemma =>
                      repeat' (first
                          | refine rnC ?_
                          | refine rnSB ?_
                          | refine rnG ?_
                          | refine rnU ?_
                          | ((fail_if_success (refine rnKn ?_)); refine rnP ?_ ?_ <;> (intro hq; try (have hq' := hq; simp only [hqs] at hq')))
                          | refine rkC ?_
                          | refine rkSB ?_
                          | refine rkF ?_
                          | refine rkU ?_
                          | ((fail_if_success (refine rkKn ?_)); refine rkP ?_ ?_ <;> (intro hq; try (have hq' := hq; simp only [hqs] at hq')))
                          | refine stp ?_
                          | refine aws_draws [] mixed (by kernel_rfl) ?_
                          | refine ifT ?_
                          | refine ifF ?_
                          | (refine ifQ ?_ ?_ <;> (try (intro hn)))
                          | (refine ifB ?_ ?_ <;> (intro hq; try (have hq' := hq; simp only [hqs] at hq'))))
                      exact rt1 rfl rfl finS_p rfl
                  | false =>
                    have hU := uni3 (a := (av, al)) (b := (bv, bl)) (c := (cv, cl)) (ok_iff.1 ra) (ok_iff.1 rb) (ok_iff.1 rc) kab kbc kac (by simp only; omega) (by simp only; omega) (by simp only; omega)
                    have ia : In (al ++ (bl ++ cl)) (av, al) := ⟨ha, pa, ok_iff.1 ra, fun e h => List.mem_append_left _ h⟩
                    have ib : In (al ++ (bl ++ cl)) (bv, bl) := ⟨hb, pb, ok_iff.1 rb, fun e h => List.mem_append_right _ (List.mem_append_left _ h)⟩
                    have ic : In (al ++ (bl ++ cl)) (cv, cl) := ⟨hc, pc, ok_iff.1 rc, fun e h => List.mem_append_right _ (List.mem_append_right _ h)⟩
                    obtain ⟨⟨lv, ll⟩, ⟨jv, jl⟩, h⟩ := lattice hU ia ib ic
                    have j8 := h.jv
                    have l8 := h.lv
                    have jf := h.jf
                    have lf := h.lf
                    have jp := h.jp
                    simp only at j8 l8 jf lf jp
                    have c1 : PCall Try.prog 20 [.p (.sl 9 [cR av al false, cR bv bl false, cR cv cl false] true)] (.tup [.agg (cL jv jl false), .one (.p (.i 0))]) := by
                      have k := all_w [(av, al), (bv, bl), (cv, cl)] true (by simp) (by simp only [List.forall_mem_cons, List.not_mem_nil, false_implies, implies_true, and_true]; exact ⟨⟨ha, pa, by first | exact ma | omega⟩, ⟨hb, pb, by first | exact mb | omega⟩, ⟨hc, pc, by first | exact mc | omega⟩⟩)
                      rw [show ([(av, al), (bv, bl), (cv, cl)] : List Crt).length = 3 from rfl, h.j1] at k
                      exact k
                    haveI : PC Try.prog 20 [.p (.sl 9 [cR av al false, cR bv bl false, cR cv cl false] true)] True (.tup [.agg (cL jv jl false), .one (.p (.i 0))]) := ⟨fun _ => c1⟩
                    have c2 : PCall Try.prog 20 [.p (.sl 9 [cR cv cl false, cR bv bl false, cR av al false] true)] (.tup [.agg (cL jv jl false), .one (.p (.i 0))]) := by
                      have k := all_w [(cv, cl), (bv, bl), (av, al)] true (by simp) (by simp only [List.forall_mem_cons, List.not_mem_nil, false_implies, implies_true, and_true]; exact ⟨⟨hc, pc, by first | exact mc | omega⟩, ⟨hb, pb, by first | exact mb | omega⟩, ⟨ha, pa, by first | exact ma | omega⟩⟩)
                      rw [show ([(cv, cl), (bv, bl), (av, al)] : List Crt).length = 3 from rfl, h.j2] at k
                      exact k
                    haveI : PC Try.prog 20 [.p (.sl 9 [cR cv cl false, cR bv bl false, cR av al false] true)] True (.tup [.agg (cL jv jl false), .one (.p (.i 0))]) := ⟨fun _ => c2⟩
                    have c3 : PCall Try.prog 23 [cV bv bl false, cV cv cl false] (.tup [.agg (cL lv ll false), .one (.p (.i 0))]) := by
                      have k := two_w bv cv bl cl false false hb hc pb mb mc
                      rw [h.l1] at k; exact k
                    haveI : PC Try.prog 23 [cV bv bl false, cV cv cl false] True (.tup [.agg (cL lv ll false), .one (.p (.i 0))]) := ⟨fun _ => c3⟩
                    have c4 : PCall Try.prog 23 [cV av al false, cV lv ll false] (.tup [.agg (cL jv jl false), .one (.p (.i 0))]) := by
                      have k := two_w av lv al ll false false ha l8 pa ma (by omega)
                      rw [h.l2] at k; exact k
                    haveI : PC Try.prog 23 [cV av al false, cV lv ll false] True (.tup [.agg (cL jv jl false), .one (.p (.i 0))]) := ⟨fun _ => c4⟩
                    have c5 : PCall Try.prog 20 [.p (.sl 9 [cR jv jl false, cR bv bl false, cR jv jl false, cR av al false] true)] (.tup [.agg (cL jv jl false), .one (.p (.i 0))]) := by
                      have k := all_w [(jv, jl), (bv, bl), (jv, jl), (av, al)] true (by simp) (by simp only [List.forall_mem_cons, List.not_mem_nil, false_implies, implies_true, and_true]; exact ⟨⟨j8, jp, by first | exact ma | omega⟩, ⟨hb, pb, by first | exact mb | omega⟩, ⟨j8, jp, by first | exact ma | omega⟩, ⟨ha, pa, by first | exact ma | omega⟩⟩)
                      rw [show ([(jv, jl), (bv, bl), (jv, jl), (av, al)] : List Crt).length = 4 from rfl, h.j3] at k
                      exact k
                    haveI : PC Try.prog 20 [.p (.sl 9 [cR jv jl false, cR bv bl false, cR jv jl false, cR av al false] true)] True (.tup [.agg (cL jv jl false), .one (.p (.i 0))]) := ⟨fun _ => c5⟩
                    have c6 : PCall Try.prog 17 [cV jv jl false] (.p (.b true)) := by
                      have k := right_w jv jl false j8 (by omega)
                      rw [h.r] at k; exact k
                    haveI : PC Try.prog 17 [cV jv jl false] True (.p (.b true)) := ⟨fun _ => c6⟩
                    have c7 : PCall Try.prog 16 [cV jv jl false, cV jv jl false] (.p (.b true)) := by
                      have k := same_w jv jv jl jl false false j8 j8 (by omega)
                      rw [show sameF jv jv jl jl = true by simp [sameF]] at k; exact k
                    haveI : PC Try.prog 16 [cV jv jl false, cV jv jl false] True (.p (.b true)) := ⟨fun _ => c7⟩
                    have c8 : PCall Try.prog 25 [cV jv jl false, cV av al false] (.p (.b true)) := by
                      have k := covers_w jv av jl al false false j8 ha jp (by omega) ma
                      rw [h.ca] at k; exact k
                    haveI : PC Try.prog 25 [cV jv jl false, cV av al false] True (.p (.b true)) := ⟨fun _ => c8⟩
                    have c9 : PCall Try.prog 25 [cV jv jl false, cV bv bl false] (.p (.b true)) := by
                      have k := covers_w jv bv jl bl false false j8 hb jp (by omega) mb
                      rw [h.cb] at k; exact k
                    haveI : PC Try.prog 25 [cV jv jl false, cV bv bl false] True (.p (.b true)) := ⟨fun _ => c9⟩
                    have c10 : PCall Try.prog 25 [cV jv jl false, cV cv cl false] (.p (.b true)) := by
                      have k := covers_w jv cv jl cl false false j8 hc jp (by omega) mc
                      rw [h.cc] at k; exact k
                    haveI : PC Try.prog 25 [cV jv jl false, cV cv cl false] True (.p (.b true)) := ⟨fun _ => c10⟩
                    have c11 : PCall Try.prog 26 [cV av al false, cV av al false] (.p (.i 0)) := by
                      have k := orderC_w av av al al false false ha ha pa pa ma ma
                      rw [h.o] at k; exact k
                    haveI : PC Try.prog 26 [cV av al false, cV av al false] True (.p (.i 0)) := ⟨fun _ => c11⟩
                    clear c1 c2 c3 c4 c5 c6 c7 c8 c9 c10 c11 h ia ib ic hU
                    as_aux_lemma =>
                      repeat' (first
                          | refine rnC ?_
                          | refine rnSB ?_
                          | refine rnG ?_
                          | refine rnU ?_
                          | ((fail_if_success (refine rnKn ?_)); refine rnP ?_ ?_ <;> (intro hq; try (have hq' := hq; simp only [hqs] at hq')))
                          | refine rkC ?_
                          | refine rkSB ?_
                          | refine rkF ?_
                          | refine rkU ?_
                          | ((fail_if_success (refine rkKn ?_)); refine rkP ?_ ?_ <;> (intro hq; try (have hq' := hq; simp only [hqs] at hq')))
                          | refine stp ?_
                          | refine aws_draws [] mixed (by kernel_rfl) ?_
                          | refine ifT ?_
                          | refine ifF ?_
                          | (refine ifQ ?_ ?_ <;> (try (intro hn)))
                          | (refine ifB ?_ ?_ <;> (intro hq; try (have hq' := hq; simp only [hqs] at hq'))))
                      exact rt1 rfl rfl finS_p rfl
end Go.Proofs.Ytpmobjnaiaogbaa.Ca
