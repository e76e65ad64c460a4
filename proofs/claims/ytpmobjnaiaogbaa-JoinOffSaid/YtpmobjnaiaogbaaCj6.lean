/- joins, the laws: JoinOff -/
import Derived.Test.YtpmobjnaiaogbaaCj5
import Derived.Test.YtpmobjnaiaogbaaCb1
namespace Go.Proofs.Ytpmobjnaiaogbaa.Ca
open Go Go.RowKit Go.Aw Go.Aw.Cart Go.Aw.Ord Go.Sort
set_option linter.unusedVariables false
set_option linter.unusedSimpArgs false
set_option maxRecDepth 8000
set_option maxHeartbeats 4000000
theorem two_ok {a b : Crt} (ha : a.1.length = 8) (hb : b.1.length = 8) (h : (twoF a b).2 = 0) : Two a b := by
  unfold twoF at h
  by_cases h1 : rightF a.1 a.2 = false ∨ rightF b.1 b.2 = false
  · rw [if_pos h1] at h; cases h
  · rw [if_neg h1] at h
    by_cases h2 : clashF a b = true
    · rw [if_pos h2] at h; cases h
    · rw [if_neg h2] at h
      by_cases h3 : 400 < (bothF a b).length
      · rw [if_pos h3] at h; cases h
      · have r1 : rightF a.1 a.2 = true := by cases q : rightF a.1 a.2 with
          | true => rfl
          | false => exact absurd (.inl q) h1
        have r2 : rightF b.1 b.2 = true := by cases q : rightF b.1 b.2 with
          | true => rfl
          | false => exact absurd (.inr q) h1
        exact ⟨ha, hb, ok_iff.1 r1, ok_iff.1 r2, clash_not (by cases q : clashF a b with
          | true => exact absurd q h2
          | false => rfl), by omega⟩
/-- is an entry of a dot there -/
theorem live_iff {v : List Int} {l : List Ent} (o : Ok v l) (d : Dot) : d ∈ liveF l ↔ ∃ e ∈ l, dotE e = d := by rw [o.live, List.mem_map]
theorem off_is {v : List Int} {l : List Ent} (o : Ok v l) (d : Dot) : isOffF v l d = (hasF v d && !decide (d ∈ liveF l)) := by
  unfold isOffF
  congr 2
  rw [Bool.eq_iff_iff, decide_eq_true_eq, live_iff o, List.any_eq_true]
  simp
theorem live_has {v : List Int} {l : List Ent} (o : Ok v l) {d : Dot} (h : d ∈ liveF l) : hasF v d = true := by
  obtain ⟨e, he, rfl⟩ := (live_iff o d).1 h
  exact o.has e he
theorem Two.live {a b : Crt} (h : Two a b) (d : Dot) : d ∈ liveF (twoF a b).1.2 ↔ (d ∈ liveF a.2 ∧ d ∈ liveF b.2) ∨ (d ∈ liveF a.2 ∧ hasF b.1 d = false) ∨ (d ∈ liveF b.2 ∧ hasF a.1 d = false) := by
  rw [live_iff h.ok, live_iff h.oa, live_iff h.ob]
  constructor
  · rintro ⟨e, he, rfl⟩
    rcases h.mem.1 he with ⟨k1, k2 | k2⟩ | ⟨k1, k2⟩
    · exact .inl ⟨⟨e, k1, rfl⟩, ⟨e, k2, rfl⟩⟩
    · exact .inr (.inl ⟨⟨e, k1, rfl⟩, k2⟩)
    · exact .inr (.inr ⟨⟨e, k1, rfl⟩, k2⟩)
  · rintro (⟨⟨e, he, rfl⟩, ⟨f, hf, hd⟩⟩ | ⟨⟨e, he, rfl⟩, k⟩ | ⟨⟨e, he, rfl⟩, k⟩)
    · have := h.nc e he f hf hd.symm
      exact ⟨e, h.mem.2 (.inl ⟨he, .inl (by rw [this]; exact hf)⟩), rfl⟩
    · exact ⟨e, h.mem.2 (.inl ⟨he, .inr k⟩), rfl⟩
    · exact ⟨e, h.mem.2 (.inr ⟨he, k⟩), rfl⟩
/-- live, or off, or not known: in one cart, in the other one, and so in the join -/
theorem off_law {a b : Crt} (h : Two a b) (d : Dot) : isOffF (twoF a b).1.1 (twoF a b).1.2 d = (isOffF a.1 a.2 d || isOffF b.1 b.2 d) ∧ decide (d ∈ liveF (twoF a b).1.2) = ((decide (d ∈ liveF a.2) || decide (d ∈ liveF b.2)) && !(isOffF a.1 a.2 d || isOffF b.1 b.2 d)) := by
  rw [off_is h.ok, off_is h.oa, off_is h.ob, h.vec, has_max h.la h.lb]
  have e := h.live d
  have h1 : d ∈ liveF a.2 → hasF a.1 d = true := live_has h.oa
  have h2 : d ∈ liveF b.2 → hasF b.1 d = true := live_has h.ob
  by_cases p : d ∈ liveF a.2 <;> by_cases q : d ∈ liveF b.2 <;> cases r : hasF a.1 d <;> cases s : hasF b.1 d <;> simp_all
theorem one_law {v : List Int} {l : List Ent} (o : Ok v l) (d : Dot) : (decide (d ∈ liveF l) = true ∧ isOffF v l d = false) ∨ (decide (d ∈ liveF l) = false ∧ isOffF v l d = true) ∨ (decide (d ∈ liveF l) = false ∧ isOffF v l d = false) := by
  rcases dots_law (ok_iff.2 o) d with ⟨h1, h2, h3⟩ | ⟨h1, h2, h3⟩ | ⟨h1, h2, h3⟩
  · exact .inl ⟨h1, h2⟩
  · exact .inr (.inl ⟨h1, h2⟩)
  · exact .inr (.inr ⟨h1, h2⟩)
theorem live_le {l : List Ent} (h : l.length ≤ 2000) : (liveF l).length ≤ 1000000000 := by
  rw [live_set l h]
  have := setF_len (l.map dotE)
  rw [List.length_map] at this; omega
open J3
theorem joinOff_w (v w : List Int) (l m : List Ent) (ex ey : Bool) (d : Dot) (hv : v.length = 8) (hw : w.length = 8) (h0 : ∀ n ∈ v, 0 ≤ n) : PCall Try.prog 7 [cV v l ex, cV w m ey, dV d] (.p (.b true)) := by
  refine pcall_of Try.func7 rfl (fun w0 F S0 M0 => ?_)
  by_cases hg : 60 < l.length
  · have d1 : decide (60 < (l.length : Int)) = true := decide_eq_true (by omega)
    as_aux_lemma =>
      repeat' (first
          | refine rnC ?_
          | refine rnSB ?_
          | refine rnG ?_
          | refine rnU ?_
          | ((fail_if_success (refine rnKn ?_)); refine rnP ?_ ?_ <;> (intro hq; try (have hq' := hq; simp only [hqs] at hq')))
          | refine rkC ?_
          | refine rkSB ?_
          | refine rkF ?_
          | refine rkU ?_
          | ((fail_if_success (refine rkKn ?_)); refine rkP ?_ ?_ <;> (intro hq; try (have hq' := hq; simp only [hqs] at hq')))
          | refine stp ?_
          | refine aws_draws [] mixed (by kernel_rfl) ?_
          | refine ifT ?_
          | refine ifF ?_
          | (refine ifQ ?_ ?_ <;> (try (intro hn)))
          | (refine ifB ?_ ?_ <;> (intro hq; try (have hq' := hq; simp only [hqs] at hq'))))
      exact rt1 rfl rfl finS_p rfl
  · have d1 : decide (60 < (l.length : Int)) = false := decide_eq_false (by omega)
    by_cases hk : 60 < m.length
    · have d2 : decide (60 < (m.length : Int)) = true := decide_eq_true (by omega)
      as_aux_lemma =>
        repeat' (first
            | refine rnC ?_
            | refine rnSB ?_
            | refine rnG ?_
            | refine rnU ?_
            | ((fail_if_success (refine rnKn ?_)); refine rnP ?_ ?_ <;> (intro hq; try (have hq' := hq; simp only [hqs] at hq')))
            | refine rkC ?_
            | refine rkSB ?_
            | refine rkF ?_
            | refine rkU ?_
            | ((fail_if_success (refine rkKn ?_)); refine rkP ?_ ?_ <;> (intro hq; try (have hq' := hq; simp only [hqs] at hq')))
            | refine stp ?_
            | refine aws_draws [] mixed (by kernel_rfl) ?_
            | refine ifT ?_
            | refine ifF ?_
            | (refine ifQ ?_ ?_ <;> (try (intro hn)))
            | (refine ifB ?_ ?_ <;> (intro hq; try (have hq' := hq; simp only [hqs] at hq'))))
        exact rt1 rfl rfl finS_p rfl
    · have d2 : decide (60 < (m.length : Int)) = false := decide_eq_false (by omega)
      have ct := two_w v w l m ex ey hv hw h0 (by omega) (by omega)
      have j8 := two_len8 (a := (v, l)) (b := (w, m)) hv hw
      have jf := two_few (a := (v, l)) (b := (w, m))
      have TT : (twoF (v, l) (w, m)).2 = 0 → Two (v, l) (w, m) := two_ok hv hw
      have OL : Two (v, l) (w, m) → isOffF (twoF (v, l) (w, m)).1.1 (twoF (v, l) (w, m)).1.2 d = (isOffF v l d || isOffF w m d) ∧ decide (d ∈ liveF (twoF (v, l) (w, m)).1.2) = ((decide (d ∈ liveF l) || decide (d ∈ liveF m)) && !(isOffF v l d || isOffF w m d)) := fun h => off_law h d
      generalize twoF (v, l) (w, m) = r at ct j8 jf TT OL
      obtain ⟨⟨jv, jl⟩, c⟩ := r
      dsimp only at ct j8 jf TT OL
      haveI : PC Try.prog 23 [cV v l ex, cV w m ey] True (.tup [.agg (cL jv jl false), .one (.p (.i c))]) := ⟨fun _ => ct⟩
      by_cases hc : c = 0
      · have d3 : decide (c ≠ 0) = false := decide_eq_false fun q => q hc
        have T2 := TT hc
        obtain ⟨o1, o2⟩ := OL T2
        have l1 : l.length ≤ 1000000000 := by omega
        have l2 : m.length ≤ 1000000000 := by omega
        have l3 : l.length ≤ 1000000 := by omega
        have l4 : m.length ≤ 1000000 := by omega
        have l5 : jl.length ≤ 1000000000 := by omega
        have l6 : jl.length ≤ 1000000 := by omega
        have l7 := live_le (l := l) (by omega)
        have l8 := live_le (l := m) (by omega)
        have l9 := live_le (l := jl) (by omega)
        rcases one_law T2.oa d with ⟨a1, a2⟩ | ⟨a1, a2⟩ | ⟨a1, a2⟩
        · rcases one_law T2.ob d with ⟨b1, b2⟩ | ⟨b1, b2⟩ | ⟨b1, b2⟩
          · simp only at a1 a2 b1 b2
            rw [a1, a2, b1, b2] at o2
            rw [a2, b2] at o1
            have o1' : isOffF jv jl d = false := o1
            have o2' : decide (d ∈ liveF jl) = true := o2
            have k1 : (isOffF jv jl d == isOffF w m d) = true := by rw [o1', b2]; rfl
            have k2 : (decide (d ∈ liveF jl) == !isOffF w m d) = true := by rw [o2', b2]; rfl
            clear o1 o2 o1' o2'
            as_aux_lemma =>
              repeat' (first
                  | refine rnC ?_
                  | refine rnSB ?_
                  | refine rnG ?_
                  | refine rnU ?_
                  | ((fail_if_success (refine rnKn ?_)); refine rnP ?_ ?_ <;> (intro hq; try (have hq' := hq; simp only [hqs] at hq')))
                  | refine rkC ?_
                  | refine rkSB ?_
                  | refine rkF ?_
                  | refine rkU ?_
                  | ((fail_if_success (refine rkKn ?_)); refine rkP ?_ ?_ <;> (intro hq; try (have hq' := hq; simp only [hqs] at hq')))
                  | refine stp ?_
                  | refine aws_draws [] mixed (by kernel_rfl) ?_
                  | refine ifT ?_
                  | refine ifF ?_
                  | (refine ifQ ?_ ?_ <;> (try (intro hn)))
                  | (refine ifB ?_ ?_ <;> (intro hq; try (have hq' := hq; simp only [hqs] at hq'))))
              exact rt1 rfl rfl finS_p (rb (by first | exact k2.symm | exact k3.symm))
          · simp only at a1 a2 b1 b2
            rw [a1, a2, b1, b2] at o2
            rw [a2, b2] at o1
            have o1' : isOffF jv jl d = true := o1
            have o2' : decide (d ∈ liveF jl) = false := o2
            have k1 : (isOffF jv jl d == isOffF w m d) = true := by rw [o1', b2]; rfl
            have k2 : (decide (d ∈ liveF jl) == !isOffF w m d) = true := by rw [o2', b2]; rfl
            clear o1 o2 o1' o2'
            as_aux_lemma =>
              repeat' (first
                  | refine rnC ?_
                  | refine rnSB ?_
                  | refine rnG ?_
                  | refine rnU ?_
                  | ((fail_if_success (refine rnKn ?_)); refine rnP ?_ ?_ <;> (intro hq; try (have hq' := hq; simp only [hqs] at hq')))
                  | refine rkC ?_
                  | refine rkSB ?_
                  | refine rkF ?_
                  | refine rkU ?_
                  | ((fail_if_success (refine rkKn ?_)); refine rkP ?_ ?_ <;> (intro hq; try (have hq' := hq; simp only [hqs] at hq')))
                  | refine stp ?_
                  | refine aws_draws [] mixed (by kernel_rfl) ?_
                  | refine ifT ?_
                  | refine ifF ?_
                  | (refine ifQ ?_ ?_ <;> (try (intro hn)))
                  | (refine ifB ?_ ?_ <;> (intro hq; try (have hq' := hq; simp only [hqs] at hq'))))
              exact rt1 rfl rfl finS_p (rb (by first | exact k2.symm | exact k3.symm))
          · simp only at a1 a2 b1 b2
            rw [a1, a2, b1, b2] at o2
            rw [a2, b2] at o1
            have o1' : isOffF jv jl d = false := o1
            have o2' : decide (d ∈ liveF jl) = true := o2
            have k1 : (isOffF jv jl d == isOffF w m d) = true := by rw [o1', b2]; rfl
            have k2 : (decide (d ∈ liveF jl) == !isOffF w m d) = true := by rw [o2', b2]; rfl
            clear o1 o2 o1' o2'
            as_aux_lemma =>
              repeat' (first
                  | refine rnC ?_
                  | refine rnSB ?_
                  | refine rnG ?_
                  | refine rnU ?_
                  | ((fail_if_success (refine rnKn ?_)); refine rnP ?_ ?_ <;> (intro hq; try (have hq' := hq; simp only [hqs] at hq')))
                  | refine rkC ?_
                  | refine rkSB ?_
                  | refine rkF ?_
                  | refine rkU ?_
                  | ((fail_if_success (refine rkKn ?_)); refine rkP ?_ ?_ <;> (intro hq; try (have hq' := hq; simp only [hqs] at hq')))
                  | refine stp ?_
                  | refine aws_draws [] mixed (by kernel_rfl) ?_
                  | refine ifT ?_
                  | refine ifF ?_
                  | (refine ifQ ?_ ?_ <;> (try (intro hn)))
                  | (refine ifB ?_ ?_ <;> (intro hq; try (have hq' := hq; simp only [hqs] at hq'))))
              exact rt1 rfl rfl finS_p (rb (by first | exact k2.symm | exact k3.symm))
        · rcases one_law T2.ob d with ⟨b1, b2⟩ | ⟨b1, b2⟩ | ⟨b1, b2⟩
          · simp only at a1 a2 b1 b2
            rw [a1, a2, b1, b2] at o2
            rw [a2, b2] at o1
            have o1' : isOffF jv jl d = true := o1
            have o2' : decide (d ∈ liveF jl) = false := o2
            have k1 : (isOffF jv jl d == true) = true := by rw [o1']; rfl
            have k2 : (decide (d ∈ liveF jl) == !true) = true := by rw [o2']; rfl
            clear o1 o2 o1' o2'
            as_aux_lemma =>
              repeat' (first
                  | refine rnC ?_
                  | refine rnSB ?_
                  | refine rnG ?_
                  | refine rnU ?_
                  | ((fail_if_success (refine rnKn ?_)); refine rnP ?_ ?_ <;> (intro hq; try (have hq' := hq; simp only [hqs] at hq')))
                  | refine rkC ?_
                  | refine rkSB ?_
                  | refine rkF ?_
                  | refine rkU ?_
                  | ((fail_if_success (refine rkKn ?_)); refine rkP ?_ ?_ <;> (intro hq; try (have hq' := hq; simp only [hqs] at hq')))
                  | refine stp ?_
                  | refine aws_draws [] mixed (by kernel_rfl) ?_
                  | refine ifT ?_
                  | refine ifF ?_
                  | (refine ifQ ?_ ?_ <;> (try (intro hn)))
                  | (refine ifB ?_ ?_ <;> (intro hq; try (have hq' := hq; simp only [hqs] at hq'))))
              exact rt1 rfl rfl finS_p (rb (by first | exact k2.symm | exact k3.symm))
          · simp only at a1 a2 b1 b2
            rw [a1, a2, b1, b2] at o2
            rw [a2, b2] at o1
            have o1' : isOffF jv jl d = true := o1
            have o2' : decide (d ∈ liveF jl) = false := o2
            have k1 : (isOffF jv jl d == true) = true := by rw [o1']; rfl
            have k2 : (decide (d ∈ liveF jl) == decide (d ∈ liveF m)) = true := by rw [o2', b1]; rfl
            have k3 : (decide (d ∈ liveF jl) == false) = true := by rw [o2']; rfl
            clear o1 o2 o1' o2'
            as_aux_lemma =>
              repeat' (first
                  | refine rnC ?_
                  | refine rnSB ?_
                  | refine rnG ?_
                  | refine rnU ?_
                  | ((fail_if_success (refine rnKn ?_)); refine rnP ?_ ?_ <;> (intro hq; try (have hq' := hq; simp only [hqs] at hq')))
                  | refine rkC ?_
                  | refine rkSB ?_
                  | refine rkF ?_
                  | refine rkU ?_
                  | ((fail_if_success (refine rkKn ?_)); refine rkP ?_ ?_ <;> (intro hq; try (have hq' := hq; simp only [hqs] at hq')))
                  | refine stp ?_
                  | refine aws_draws [] mixed (by kernel_rfl) ?_
                  | refine ifT ?_
                  | refine ifF ?_
                  | (refine ifQ ?_ ?_ <;> (try (intro hn)))
                  | (refine ifB ?_ ?_ <;> (intro hq; try (have hq' := hq; simp only [hqs] at hq'))))
              exact rt1 rfl rfl finS_p (rb (by first | exact k2.symm | exact k3.symm))
          · simp only at a1 a2 b1 b2
            rw [a1, a2, b1, b2] at o2
            rw [a2, b2] at o1
            have o1' : isOffF jv jl d = true := o1
            have o2' : decide (d ∈ liveF jl) = false := o2
            have k1 : (isOffF jv jl d == true) = true := by rw [o1']; rfl
            have k2 : (decide (d ∈ liveF jl) == decide (d ∈ liveF m)) = true := by rw [o2', b1]; rfl
            have k3 : (decide (d ∈ liveF jl) == false) = true := by rw [o2']; rfl
            clear o1 o2 o1' o2'
            as_aux_lemma =>
              repeat' (first
                  | refine rnC ?_
                  | refine rnSB ?_
                  | refine rnG ?_
                  | refine rnU ?_
                  | ((fail_if_success (refine rnKn ?_)); refine rnP ?_ ?_ <;> (intro hq; try (have hq' := hq; simp only [hqs] at hq')))
                  | refine rkC ?_
                  | refine rkSB ?_
                  | refine rkF ?_
                  | refine rkU ?_
                  | ((fail_if_success (refine rkKn ?_)); refine rkP ?_ ?_ <;> (intro hq; try (have hq' := hq; simp only [hqs] at hq')))
                  | refine stp ?_
                  | refine aws_draws [] mixed (by kernel_rfl) ?_
                  | refine ifT ?_
                  | refine ifF ?_
                  | (refine ifQ ?_ ?_ <;> (try (intro hn)))
                  | (refine ifB ?_ ?_ <;> (intro hq; try (have hq' := hq; simp only [hqs] at hq'))))
              exact rt1 rfl rfl finS_p (rb (by first | exact k2.symm | exact k3.symm))
        · rcases one_law T2.ob d with ⟨b1, b2⟩ | ⟨b1, b2⟩ | ⟨b1, b2⟩
          · simp only at a1 a2 b1 b2
            rw [a1, a2, b1, b2] at o2
            rw [a2, b2] at o1
            have o1' : isOffF jv jl d = false := o1
            have o2' : decide (d ∈ liveF jl) = true := o2
            have k1 : (isOffF jv jl d == isOffF w m d) = true := by rw [o1', b2]; rfl
            have k2 : (decide (d ∈ liveF jl) == !isOffF w m d) = true := by rw [o2', b2]; rfl
            clear o1 o2 o1' o2'
            as_aux_lemma =>
              repeat' (first
                  | refine rnC ?_
                  | refine rnSB ?_
                  | refine rnG ?_
                  | refine rnU ?_
                  | ((fail_if_success (refine rnKn ?_)); refine rnP ?_ ?_ <;> (intro hq; try (have hq' := hq; simp only [hqs] at hq')))
                  | refine rkC ?_
                  | refine rkSB ?_
                  | refine rkF ?_
                  | refine rkU ?_
                  | ((fail_if_success (refine rkKn ?_)); refine rkP ?_ ?_ <;> (intro hq; try (have hq' := hq; simp only [hqs] at hq')))
                  | refine stp ?_
                  | refine aws_draws [] mixed (by kernel_rfl) ?_
                  | refine ifT ?_
                  | refine ifF ?_
                  | (refine ifQ ?_ ?_ <;> (try (intro hn)))
                  | (refine ifB ?_ ?_ <;> (intro hq; try (have hq' := hq; simp only [hqs] at hq'))))
              exact rt1 rfl rfl finS_p (rb (by first | exact k2.symm | exact k3.symm))
          · simp only at a1 a2 b1 b2
            rw [a1, a2, b1, b2] at o2
            rw [a2, b2] at o1
            have o1' : isOffF jv jl d = true := o1
            have o2' : decide (d ∈ liveF jl) = false := o2
            have k1 : (isOffF jv jl d == isOffF w m d) = true := by rw [o1', b2]; rfl
            have k2 : (decide (d ∈ liveF jl) == decide (d ∈ liveF m)) = true := by rw [o2', b1]; rfl
            have k3 : (decide (d ∈ liveF jl) == false) = true := by rw [o2']; rfl
            clear o1 o2 o1' o2'
            as_aux_lemma =>
              repeat' (first
                  | refine rnC ?_
                  | refine rnSB ?_
                  | refine rnG ?_
                  | refine rnU ?_
                  | ((fail_if_success (refine rnKn ?_)); refine rnP ?_ ?_ <;> (intro hq; try (have hq' := hq; simp only [hqs] at hq')))
                  | refine rkC ?_
                  | refine rkSB ?_
                  | refine rkF ?_
                  | refine rkU ?_
                  | ((fail_if_success (refine rkKn ?_)); refine rkP ?_ ?_ <;> (intro hq; try (have hq' := hq; simp only [hqs] at hq')))
                  | refine stp ?_
                  | refine aws_draws [] mixed (by kernel_rfl) ?_
                  | refine ifT ?_
                  | refine ifF ?_
                  | (refine ifQ ?_ ?_ <;> (try (intro hn)))
                  | (refine ifB ?_ ?_ <;> (intro hq; try (have hq' := hq; simp only [hqs] at hq'))))
              exact rt1 rfl rfl finS_p (rb (by first | exact k2.symm | exact k3.symm))
          · simp only at a1 a2 b1 b2
            rw [a1, a2, b1, b2] at o2
            rw [a2, b2] at o1
            have o1' : isOffF jv jl d = false := o1
            have o2' : decide (d ∈ liveF jl) = false := o2
            have k1 : (isOffF jv jl d == isOffF w m d) = true := by rw [o1', b2]; rfl
            have k2 : (decide (d ∈ liveF jl) == decide (d ∈ liveF m)) = true := by rw [o2', b1]; rfl
            have k3 : (decide (d ∈ liveF jl) == false) = true := by rw [o2']; rfl
            clear o1 o2 o1' o2'
            as_aux_lemma =>
              repeat' (first
                  | refine rnC ?_
                  | refine rnSB ?_
                  | refine rnG ?_
                  | refine rnU ?_
                  | ((fail_if_success (refine rnKn ?_)); refine rnP ?_ ?_ <;> (intro hq; try (have hq' := hq; simp only [hqs] at hq')))
                  | refine rkC ?_
                  | refine rkSB ?_
                  | refine rkF ?_
                  | refine rkU ?_
                  | ((fail_if_success (refine rkKn ?_)); refine rkP ?_ ?_ <;> (intro hq; try (have hq' := hq; simp only [hqs] at hq')))
                  | refine stp ?_
                  | refine aws_draws [] mixed (by kernel_rfl) ?_
                  | refine ifT ?_
                  | refine ifF ?_
                  | (refine ifQ ?_ ?_ <;> (try (intro hn)))
                  | (refine ifB ?_ ?_ <;> (intro hq; try (have hq' := hq; simp only [hqs] at hq'))))
              exact rt1 rfl rfl finS_p (rb (by first | exact k2.symm | exact k3.symm))
      · have d3 : decide (c ≠ 0) = true := decide_eq_true hc
        as_aux_lemma =>
          repeat' (first
              | refine rnC ?_
              | refine rnSB ?_
              | refine rnG ?_
              | refine rnU ?_
              | ((fail_if_success (refine rnKn ?_)); refine rnP ?_ ?_ <;> (intro hq; try (have hq' := hq; simp only [hqs] at hq')))
              | refine rkC ?_
              | refine rkSB ?_
              | refine rkF ?_
              | refine rkU ?_
              | ((fail_if_success (refine rkKn ?_)); refine rkP ?_ ?_ <;> (intro hq; try (have hq' := hq; simp only [hqs] at hq')))
              | refine stp ?_
              | refine aws_draws [] mixed (by kernel_rfl) ?_
              | refine ifT ?_
              | refine ifF ?_
              | (refine ifQ ?_ ?_ <;> (try (intro hn)))
              | (refine ifB ?_ ?_ <;> (intro hq; try (have hq' := hq; simp only [hqs] at hq'))))
          exact rt1 rfl rfl finS_p rfl
end Go.Proofs.Ytpmobjnaiaogbaa.Ca
