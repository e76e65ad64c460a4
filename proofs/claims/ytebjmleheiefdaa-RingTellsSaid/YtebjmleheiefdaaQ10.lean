/- rings, the laws: RingTells: a part beyond; rings, the laws: RingTells: a part; rings, the laws: RingTells: all; rings: RingTells' contract over what was read -/
import Derived.Test.YtebjmleheiefdaaQ9
import Derived.Test.YtebjmleheiefdaaQ6
namespace Go.Proofs.Ytebjmleheiefdaa.Rg
open Go Go.RowKit Go.Aw Go.Aw.Cart Go.Aw.Ord Go.Sort Go.Proofs.Ytebjmleheiefdaa.Ca
set_option linter.unusedVariables false
set_option linter.unusedSimpArgs false
set_option maxRecDepth 8000
set_option maxHeartbeats 4000000
open PB
theorem ringTells_hi (w0 : World) (F S0 : Nat → Prop) (M0 : Mu) (n v r : Nat) (part node : Int) (m : List Int) (ν : Nat → Nat) (P O : List Int) (ν1 : Nat → Nat) (i : Nat) (β : Nat → AV) (γ : Nat → Nat × Option MO) (g : Nat) (β1 : Nat → AV) (γ1 : Nat → Nat × Option MO) (h : rRight n v r = true) (hm : m = partsTo n v r node 8) (p0 : ¬ part < 0) (p7 : 7 < part) : RT9.1 w0 F S0 M0 n v r part node m ν P O ν1 i β γ g β1 γ1 := by
  refine (?_ : AWs _ _ _ _)
  have d3 : decide (((8 : Nat) : Int) < 8) = false := by decide
  have e7 : vEqB [Value.int .i64 0, .int .i64 0, .int .i64 0] [Value.int .i64 0, .int .i64 0, .int .i64 0] = true := by simp [vEqB, vEq]
  obtain ⟨hn1, hn8, hv1, hv16, hr1, hrn⟩ := right_is h
  have hml : m.length ≤ 8 := by rw [hm]; exact partsTo_len _ _ _ _ _
  have z0 : pts 0 0 = [] := List.eq_nil_of_length_eq_zero (by rw [pts_len])
  have z1 : lstF 0 0 0 1 = [] := List.eq_nil_of_length_eq_zero (Nat.le_zero.1 (lstF_len 0 0 0 1))
  obtain ⟨E, hE⟩ : ∃ E : List Int, E = [] := ⟨[], rfl⟩
  have hE0 : E.length = 0 := by rw [hE]; rfl
  haveI : PC Try.prog 11 [.p (.v (.pointer none))] True (.p (.sl 1 (E.map uR) false)) := ⟨fun _ => by rw [hE]; exact points1Nil_w⟩
  haveI : PC Try.prog 16 [.p (.v (.pointer none)), .p (.i 1)] True (.p (.sl 1 (E.map iR) false)) := ⟨fun _ => by rw [hE]; exact listNil_w 1 (by decide)⟩
  haveI : PC Try.prog 18 [.p (.v (.pointer none)), .p (.i 1)] True (.p (.sl 1 (E.map iR) false)) := ⟨fun _ => by rw [hE]; exact partsNil_w 1⟩
  haveI : ∀ c g m : Nat, OC Try.prog 13 [.o (.ptr c g 0)] [(c, (m, some (ringM 0 0 0)))] [] (m = g + 1) (.p (.sl 1 (E.map iR) false)) [(c, (m, some (ringM 0 0 0)))] := fun c g m => ⟨fun h => by
    have := (owners1_i (c := c) (g := g) (m := m) (n := 0) (v := 0) (r := 0)).call ⟨h, by decide, by decide⟩
    rw [z0] at this; rw [hE]; exact this⟩
  haveI : ∀ c g m : Nat, OC Try.prog 16 [.o (.ptr c g 0), .p (.i 1)] [(c, (m, some (ringM 0 0 0)))] [] (m = g + 1) (.p (.sl 1 (E.map iR) false)) [(c, (m, some (ringM 0 0 0)))] := fun c g m => ⟨fun h => by
    have := (list_i (c := c) (g := g) (m := m) (n := 0) (v := 0) (r := 0) (part := 1)).call ⟨h, by decide, by decide, by decide⟩
    rw [z1] at this; rw [hE]; exact this⟩
  haveI : ∀ c g m : Nat, OC Try.prog 17 [.o (.ptr c g 0), .p (.i 1), .p (.i 1)] [(c, (m, some (ringM 0 0 0)))] [] (m = g + 1) (.p (.b false)) [(c, (m, some (ringM 0 0 0)))] := fun c g m => ⟨fun h => by
    have := (holds_i (c := c) (g := g) (m := m) (n := 0) (v := 0) (r := 0) (node := 1) (part := 1)).call ⟨h, by decide, by decide, by decide⟩
    rwa [z1, decide_eq_false (by simp)] at this⟩
  haveI : ∀ c g q : Nat, OC Try.prog 18 [.o (.ptr c g 0), .p (.i node)] [(c, (q, some (ringM n v r)))] [] (q = g + 1) (.p (.sl 1 (m.map iR) false)) [(c, (q, some (ringM n v r)))] := fun c g q => ⟨fun h => by rw [hm]; exact parts_i.call ⟨h, hn8, hv16, by omega⟩⟩
  have e3 : decide (m = m) = true := decide_eq_true rfl
  have e4 : decide ((E.length : Int) + (E.length : Int) + (E.length : Int) + (E.length : Int) + (E.length : Int) = 0) = true := decide_eq_true (by omega)
  have e5 : decide ((E.length : Int) = 0) = true := decide_eq_true (by omega)
  clear hm
  have out : (part < 0 ∨ 7 < part) → (∀ c g q : Nat, OC Try.prog 16 [.o (.ptr c g 0), .p (.i part)] [(c, (q, some (ringM n v r)))] [] (q = g + 1) (.p (.sl 1 (E.map iR) false)) [(c, (q, some (ringM n v r)))]) ∧ ∀ c g q : Nat, OC Try.prog 17 [.o (.ptr c g 0), .p (.i node), .p (.i part)] [(c, (q, some (ringM n v r)))] [] (q = g + 1) (.p (.b false)) [(c, (q, some (ringM n v r)))] := fun ho => by
    have hz : lstF n v r part = [] := lst_out (by omega)
    refine ⟨fun c g q => ⟨fun h => ?_⟩, fun c g q => ⟨fun h => ?_⟩⟩
    · have := (list_i (c := c) (g := g) (m := q) (n := n) (v := v) (r := r) (part := part)).call ⟨h, hn8, hv16, by omega⟩
      rw [hz] at this; rw [hE]; exact this
    · have := (holds_i (c := c) (g := g) (m := q) (n := n) (v := v) (r := r) (node := node) (part := part)).call ⟨h, hn8, hv16, by omega⟩
      rwa [hz, decide_eq_false (by simp)] at this
  have q0 : decide (part < 0) = false := decide_eq_false p0
  have q7 : decide (7 < part) = true := decide_eq_true p7
  have q8 : (!decide (7 < part)) = false := by rw [q7]; rfl
  obtain ⟨o1, o2⟩ := out (.inr p7)
  haveI := o1
  haveI := o2
  clear out
  repeat' (first
      | refine rnC ?_
      | refine rnSB ?_
      | refine rnG ?_
      | refine rnU ?_
      | ((fail_if_success (refine rnKn ?_)); refine rnP ?_ ?_ <;> (intro hq; try (have hq' := hq; simp only [hqs] at hq')))
      | refine rkC ?_
      | refine rkSB ?_
      | refine rkF ?_
      | refine rkU ?_
      | ((fail_if_success (refine rkKn ?_)); refine rkP ?_ ?_ <;> (intro hq; try (have hq' := hq; simp only [hqs] at hq')))
      | refine stp ?_
      | refine ifT ?_
      | refine ifF ?_
      | (refine ifQ ?_ ?_ <;> (try (intro hn)))
      | (refine ifB ?_ ?_ <;> (intro hq; try (have hq' := hq; simp only [hqs] at hq'))))
  refine rn_says_g (says_or (o := 20) (ty := 57) (fun d => ringP d 0 0 0) false rfl) rfl rfl rfl rfl rfl rfl ?_
  as_aux_lemma =>
    repeat' (first
        | refine rnC ?_
        | refine rnSB ?_
        | refine rnG ?_
        | refine rnU ?_
        | ((fail_if_success (refine rnKn ?_)); refine rnP ?_ ?_ <;> (intro hq; try (have hq' := hq; simp only [hqs] at hq')))
        | refine rkC ?_
        | refine rkSB ?_
        | refine rkF ?_
        | refine rkU ?_
        | ((fail_if_success (refine rkKn ?_)); refine rkP ?_ ?_ <;> (intro hq; try (have hq' := hq; simp only [hqs] at hq')))
        | refine stp ?_
        | refine ifT ?_
        | refine ifF ?_
        | (refine ifQ ?_ ?_ <;> (try (intro hn)))
        | (refine ifB ?_ ?_ <;> (intro hq; try (have hq' := hq; simp only [hqs] at hq'))))
    exact rt1 rfl rfl finS_p (rb rfl)
end Go.Proofs.Ytebjmleheiefdaa.Rg
namespace Go.Proofs.Ytebjmleheiefdaa.Rg
open Go Go.RowKit Go.Aw Go.Aw.Cart Go.Aw.Ord Go.Sort Go.Proofs.Ytebjmleheiefdaa.Ca
set_option linter.unusedVariables false
set_option linter.unusedSimpArgs false
set_option maxRecDepth 8000
set_option maxHeartbeats 4000000
open PB
theorem ringTells_in (w0 : World) (F S0 : Nat → Prop) (M0 : Mu) (n v r : Nat) (part node : Int) (m : List Int) (ν : Nat → Nat) (P O : List Int) (ν1 : Nat → Nat) (i : Nat) (β : Nat → AV) (γ : Nat → Nat × Option MO) (g : Nat) (β1 : Nat → AV) (γ1 : Nat → Nat × Option MO) (h : rRight n v r = true) (hm : m = partsTo n v r node 8) (p0 : ¬ part < 0) (p7 : ¬ 7 < part) : RT9.1 w0 F S0 M0 n v r part node m ν P O ν1 i β γ g β1 γ1 := by
  refine (?_ : AWs _ _ _ _)
  have d3 : decide (((8 : Nat) : Int) < 8) = false := by decide
  have e7 : vEqB [Value.int .i64 0, .int .i64 0, .int .i64 0] [Value.int .i64 0, .int .i64 0, .int .i64 0] = true := by simp [vEqB, vEq]
  obtain ⟨hn1, hn8, hv1, hv16, hr1, hrn⟩ := right_is h
  have hml : m.length ≤ 8 := by rw [hm]; exact partsTo_len _ _ _ _ _
  have z0 : pts 0 0 = [] := List.eq_nil_of_length_eq_zero (by rw [pts_len])
  have z1 : lstF 0 0 0 1 = [] := List.eq_nil_of_length_eq_zero (Nat.le_zero.1 (lstF_len 0 0 0 1))
  obtain ⟨E, hE⟩ : ∃ E : List Int, E = [] := ⟨[], rfl⟩
  have hE0 : E.length = 0 := by rw [hE]; rfl
  haveI : PC Try.prog 11 [.p (.v (.pointer none))] True (.p (.sl 1 (E.map uR) false)) := ⟨fun _ => by rw [hE]; exact points1Nil_w⟩
  haveI : PC Try.prog 16 [.p (.v (.pointer none)), .p (.i 1)] True (.p (.sl 1 (E.map iR) false)) := ⟨fun _ => by rw [hE]; exact listNil_w 1 (by decide)⟩
  haveI : PC Try.prog 18 [.p (.v (.pointer none)), .p (.i 1)] True (.p (.sl 1 (E.map iR) false)) := ⟨fun _ => by rw [hE]; exact partsNil_w 1⟩
  haveI : ∀ c g m : Nat, OC Try.prog 13 [.o (.ptr c g 0)] [(c, (m, some (ringM 0 0 0)))] [] (m = g + 1) (.p (.sl 1 (E.map iR) false)) [(c, (m, some (ringM 0 0 0)))] := fun c g m => ⟨fun h => by
    have := (owners1_i (c := c) (g := g) (m := m) (n := 0) (v := 0) (r := 0)).call ⟨h, by decide, by decide⟩
    rw [z0] at this; rw [hE]; exact this⟩
  haveI : ∀ c g m : Nat, OC Try.prog 16 [.o (.ptr c g 0), .p (.i 1)] [(c, (m, some (ringM 0 0 0)))] [] (m = g + 1) (.p (.sl 1 (E.map iR) false)) [(c, (m, some (ringM 0 0 0)))] := fun c g m => ⟨fun h => by
    have := (list_i (c := c) (g := g) (m := m) (n := 0) (v := 0) (r := 0) (part := 1)).call ⟨h, by decide, by decide, by decide⟩
    rw [z1] at this; rw [hE]; exact this⟩
  haveI : ∀ c g m : Nat, OC Try.prog 17 [.o (.ptr c g 0), .p (.i 1), .p (.i 1)] [(c, (m, some (ringM 0 0 0)))] [] (m = g + 1) (.p (.b false)) [(c, (m, some (ringM 0 0 0)))] := fun c g m => ⟨fun h => by
    have := (holds_i (c := c) (g := g) (m := m) (n := 0) (v := 0) (r := 0) (node := 1) (part := 1)).call ⟨h, by decide, by decide, by decide⟩
    rwa [z1, decide_eq_false (by simp)] at this⟩
  haveI : ∀ c g q : Nat, OC Try.prog 18 [.o (.ptr c g 0), .p (.i node)] [(c, (q, some (ringM n v r)))] [] (q = g + 1) (.p (.sl 1 (m.map iR) false)) [(c, (q, some (ringM n v r)))] := fun c g q => ⟨fun h => by rw [hm]; exact parts_i.call ⟨h, hn8, hv16, by omega⟩⟩
  have e3 : decide (m = m) = true := decide_eq_true rfl
  have e4 : decide ((E.length : Int) + (E.length : Int) + (E.length : Int) + (E.length : Int) + (E.length : Int) = 0) = true := decide_eq_true (by omega)
  have e5 : decide ((E.length : Int) = 0) = true := decide_eq_true (by omega)
  clear hm
  have q0 : decide (part < 0) = false := decide_eq_false p0
  have q7 : decide (7 < part) = false := decide_eq_false p7
  have q8 : (!decide (7 < part)) = true := by rw [q7]; rfl
  repeat' (first
      | refine rnC ?_
      | refine rnSB ?_
      | refine rnG ?_
      | refine rnU ?_
      | ((fail_if_success (refine rnKn ?_)); refine rnP ?_ ?_ <;> (intro hq; try (have hq' := hq; simp only [hqs] at hq')))
      | refine rkC ?_
      | refine rkSB ?_
      | refine rkF ?_
      | refine rkU ?_
      | ((fail_if_success (refine rkKn ?_)); refine rkP ?_ ?_ <;> (intro hq; try (have hq' := hq; simp only [hqs] at hq')))
      | refine stp ?_
      | refine ifT ?_
      | refine ifF ?_
      | (refine ifQ ?_ ?_ <;> (try (intro hn)))
      | (refine ifB ?_ ?_ <;> (intro hq; try (have hq' := hq; simp only [hqs] at hq'))))
  refine rn_says_g (says_or (o := 20) (ty := 57) (fun d => ringP d 0 0 0) false rfl) rfl rfl rfl rfl rfl rfl ?_
  as_aux_lemma =>
    repeat' (first
        | refine rnC ?_
        | refine rnSB ?_
        | refine rnG ?_
        | refine rnU ?_
        | ((fail_if_success (refine rnKn ?_)); refine rnP ?_ ?_ <;> (intro hq; try (have hq' := hq; simp only [hqs] at hq')))
        | refine rkC ?_
        | refine rkSB ?_
        | refine rkF ?_
        | refine rkU ?_
        | ((fail_if_success (refine rkKn ?_)); refine rkP ?_ ?_ <;> (intro hq; try (have hq' := hq; simp only [hqs] at hq')))
        | refine stp ?_
        | refine ifT ?_
        | refine ifF ?_
        | (refine ifQ ?_ ?_ <;> (try (intro hn)))
        | (refine ifB ?_ ?_ <;> (intro hq; try (have hq' := hq; simp only [hqs] at hq'))))
    exact rt1 rfl rfl finS_p (rb rfl)
end Go.Proofs.Ytebjmleheiefdaa.Rg
namespace Go.Proofs.Ytebjmleheiefdaa.Rg
open Go Go.RowKit Go.Aw Go.Aw.Cart Go.Aw.Ord Go.Sort Go.Proofs.Ytebjmleheiefdaa.Ca
set_option linter.unusedVariables false
set_option linter.unusedSimpArgs false
theorem ringTells_good (n v r : Nat) (part node : Int) (h : rRight n v r = true) : PCall Try.prog 3 [.a [.p (.i n), .p (.i v), .p (.i r)], .p (.i part), .p (.i node)] (.p (.b true)) := by
  refine RT9.2 n v r part node h fun w0 F S0 M0 m ν P O ν1 i β γ g β1 γ1 hm => ?_
  by_cases p0 : part < 0
  · exact ringTells_lo w0 F S0 M0 n v r part node m ν P O ν1 i β γ g β1 γ1 h hm p0
  · by_cases p7 : 7 < part
    · exact ringTells_hi w0 F S0 M0 n v r part node m ν P O ν1 i β γ g β1 γ1 h hm p0 p7
    · exact ringTells_in w0 F S0 M0 n v r part node m ν P O ν1 i β γ g β1 γ1 h hm p0 p7
end Go.Proofs.Ytebjmleheiefdaa.Rg
namespace Go.Proofs.Ytebjmleheiefdaa.Rg
open Go Go.RowKit Go.Aw Go.Aw.Cart Go.Proofs.Ytebjmleheiefdaa.Ca
set_option linter.unusedVariables false
set_option linter.unusedSimpArgs false
theorem ringTells_a (c : Int × Int × Int) (part node : Int) : PCall Try.prog 3 [argAV true [.i c.1, .i c.2.1, .i c.2.2], argAV false [.k .i64 part], argAV false [.k .i64 node]] (.p (.b true)) := by
  obtain ⟨c1, c2, c3⟩ := c
  cases h : rRight c1 c2 c3 with
  | false => exact ringTells_bad c1 c2 c3 part node h
  | true =>
    obtain ⟨n, v, r, rfl, rfl, rfl⟩ := cfg_nat h
    exact ringTells_good n v r part node h
end Go.Proofs.Ytebjmleheiefdaa.Rg
