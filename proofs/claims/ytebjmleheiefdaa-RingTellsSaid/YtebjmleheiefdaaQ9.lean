/- rings, the laws: RingTells; rings, the laws: RingTells: a part that there is not -/
import Derived.Test.YtebjmleheiefdaaQ6
import Derived.Test.YtebjmleheiefdaaQ2
namespace Go.Proofs.Ytebjmleheiefdaa.Rg
open Go Go.RowKit Go.Aw Go.Aw.Cart Go.Aw.Ord Go.Sort Go.Proofs.Ytebjmleheiefdaa.Ca
set_option linter.unusedVariables false
set_option linter.unusedSimpArgs false
set_option maxRecDepth 8000
set_option maxHeartbeats 4000000
open PB
theorem list_ext {a b : List Int} (hl : a.length = b.length) (h : ∀ j, j < a.length → a.getD j default = b.getD j default) : a = b := by
  refine List.ext_getElem hl fun i h1 h2 => ?_
  have := h i h1
  rwa [getD_at h1, getD_at h2] at this
theorem same12_w (a b : List Int) (ea eb : Bool) (ha : a.length ≤ 1000000) (hb : b.length ≤ 1000000) : PCall Try.prog 12 [.p (.sl 1 (a.map iR) ea), .p (.sl 1 (b.map iR) eb)] (.p (.b (decide (a = b)))) := by
  refine pcall_of Try.func12 rfl (fun w0 F S0 M0 => ?_)
  by_cases hl : a.length = b.length
  case neg =>
    have d0 : decide ((a.length : Int) ≠ (b.length : Int)) = true := decide_eq_true (by omega)
    rw [decide_eq_false (show ¬ a = b from fun e => hl (by rw [e]))]
    as_aux_lemma =>
      repeat' (first
          | refine rnC ?_
          | refine rnSB ?_
          | refine rnG ?_
          | refine rnU ?_
          | ((fail_if_success (refine rnKn ?_)); refine rnP ?_ ?_ <;> (intro hq; try (have hq' := hq; simp only [hqs] at hq')))
          | refine rkC ?_
          | refine rkSB ?_
          | refine rkF ?_
          | refine rkU ?_
          | ((fail_if_success (refine rkKn ?_)); refine rkP ?_ ?_ <;> (intro hq; try (have hq' := hq; simp only [hqs] at hq')))
          | refine stp ?_
          | refine aws_draws [] mixed (by kernel_rfl) ?_
          | refine ifT ?_
          | refine ifF ?_
          | (refine ifQ ?_ ?_ <;> (try (intro hn)))
          | (refine ifB ?_ ?_ <;> (intro hq; try (have hq' := hq; simp only [hqs] at hq'))))
      exact rt1 rfl rfl finS_p rfl
  have d0 : decide ((a.length : Int) ≠ (b.length : Int)) = false := decide_eq_false (by omega)
  repeat' (first
      | refine rnC ?_
      | refine rnSB ?_
      | refine rnG ?_
      | refine rnU ?_
      | ((fail_if_success (refine rnKn ?_)); refine rnP ?_ ?_ <;> (intro hq; try (have hq' := hq; simp only [hqs] at hq')))
      | refine rkC ?_
      | refine rkSB ?_
      | refine rkF ?_
      | refine rkU ?_
      | ((fail_if_success (refine rkKn ?_)); refine rkP ?_ ?_ <;> (intro hq; try (have hq' := hq; simp only [hqs] at hq')))
      | refine stp ?_
      | refine ifT ?_
      | refine ifF ?_
      | (refine ifQ ?_ ?_ <;> (try (intro hn)))
      | (refine ifB ?_ ?_ <;> (intro hq; try (have hq' := hq; simp only [hqs] at hq'))))
  refine aws_loopS [4, 5, 11, 12, 13, 14, 15, 16, 17, 18, 19, 20, 21, 22, 23, 24, 25] [] (fun (i : Nat) => [(5, .p (.i i))]) (fun _ => []) (fun i => i ≤ a.length ∧ ∀ j, j < i → a.getD j default = b.getD j default) (fun i => a.length - i) 0 ⟨Nat.zero_le _, fun j hj => absurd hj (Nat.not_lt_zero _)⟩ (by exact knA) (by exact knA) ?_
  rintro i β γ ⟨hi, hx⟩
  by_cases hil : i < a.length
  · have d1 : decide ((i : Int) < (a.length : Int)) = true := decide_eq_true (by omega)
    have ei : (i : Int).toNat = i := Int.toNat_natCast i
    by_cases hq : a.getD (i : Int).toNat default = b.getD (i : Int).toNat default
    · have d2 : decide (a.getD (i : Int).toNat default ≠ b.getD (i : Int).toNat default) = false := decide_eq_false fun k => k hq
      rw [ei] at hq
      repeat' (first
          | refine rnC ?_
          | refine rnSB ?_
          | refine rnG ?_
          | refine rnU ?_
          | ((fail_if_success (refine rnKn ?_)); refine rnP ?_ ?_ <;> (intro hq; try (have hq' := hq; simp only [hqs] at hq')))
          | refine rkC ?_
          | refine rkSB ?_
          | refine rkF ?_
          | refine rkU ?_
          | ((fail_if_success (refine rkKn ?_)); refine rkP ?_ ?_ <;> (intro hq; try (have hq' := hq; simp only [hqs] at hq')))
          | refine stp ?_
          | refine aws_draws [] mixed (by kernel_rfl) ?_
          | refine ifT ?_
          | refine ifF ?_
          | (refine ifQ ?_ ?_ <;> (try (intro hn)))
          | (refine ifB ?_ ?_ <;> (intro hq; try (have hq' := hq; simp only [hqs] at hq'))))
      refine ⟨i + 1, _, by omega, ⟨by omega, fun j hj => ?_⟩, .refl, by exact frA⟩
      by_cases e : j = i
      · rw [e]; exact hq
      · exact hx j (by omega)
    · have d2 : decide (a.getD (i : Int).toNat default ≠ b.getD (i : Int).toNat default) = true := decide_eq_true hq
      rw [decide_eq_false (show ¬ a = b from fun e => hq (by rw [e]))]
      as_aux_lemma =>
        repeat' (first
            | refine rnC ?_
            | refine rnSB ?_
            | refine rnG ?_
            | refine rnU ?_
            | ((fail_if_success (refine rnKn ?_)); refine rnP ?_ ?_ <;> (intro hq; try (have hq' := hq; simp only [hqs] at hq')))
            | refine rkC ?_
            | refine rkSB ?_
            | refine rkF ?_
            | refine rkU ?_
            | ((fail_if_success (refine rkKn ?_)); refine rkP ?_ ?_ <;> (intro hq; try (have hq' := hq; simp only [hqs] at hq')))
            | refine stp ?_
            | refine aws_draws [] mixed (by kernel_rfl) ?_
            | refine ifT ?_
            | refine ifF ?_
            | (refine ifQ ?_ ?_ <;> (try (intro hn)))
            | (refine ifB ?_ ?_ <;> (intro hq; try (have hq' := hq; simp only [hqs] at hq'))))
        exact rt1 rfl rfl finS_p rfl
  · have d1 : decide ((i : Int) < (a.length : Int)) = false := decide_eq_false (by omega)
    rw [decide_eq_true (list_ext hl fun j hj => hx j (by omega))]
    as_aux_lemma =>
      repeat' (first
          | refine rnC ?_
          | refine rnSB ?_
          | refine rnG ?_
          | refine rnU ?_
          | ((fail_if_success (refine rnKn ?_)); refine rnP ?_ ?_ <;> (intro hq; try (have hq' := hq; simp only [hqs] at hq')))
          | refine rkC ?_
          | refine rkSB ?_
          | refine rkF ?_
          | refine rkU ?_
          | ((fail_if_success (refine rkKn ?_)); refine rkP ?_ ?_ <;> (intro hq; try (have hq' := hq; simp only [hqs] at hq')))
          | refine stp ?_
          | refine aws_draws [] mixed (by kernel_rfl) ?_
          | refine ifT ?_
          | refine ifF ?_
          | (refine ifQ ?_ ?_ <;> (try (intro hn)))
          | (refine ifB ?_ ?_ <;> (intro hq; try (have hq' := hq; simp only [hqs] at hq'))))
      exact rt1 rfl rfl finS_p rfl
instance same12_i {a b : List Int} {ea eb : Bool} : PC Try.prog 12 [.p (.sl 1 (a.map iR) ea), .p (.sl 1 (b.map iR) eb)] (a.length ≤ 1000000 ∧ b.length ≤ 1000000) (.p (.b (decide (a = b)))) := ⟨fun h => same12_w a b ea eb h.1 h.2⟩
theorem ringTells_bad (c1 c2 c3 part node : Int) (h : rRight c1 c2 c3 = false) : PCall Try.prog 3 [.a [.p (.i c1), .p (.i c2), .p (.i c3)], .p (.i part), .p (.i node)] (.p (.b true)) := by
  refine pcall_of Try.func3 rfl (fun w0 F S0 M0 => ?_)
  haveI : PC Try.prog 6 [.a [.p (.i c1), .p (.i c2), .p (.i c3)]] True (.tup [.one (.p (.v (.pointer none))), .one (.p (.i 1))]) := ⟨fun _ => newBad_w c1 c2 c3 h⟩
  haveI : PC Try.prog 7 [.a [.p (.i c1), .p (.i c2), .p (.i c3)]] True (.p (.b false)) := ⟨fun _ => by have := ringRight_w c1 c2 c3; rwa [h] at this⟩
  haveI : PC Try.prog 8 [.p (.i c1), .p (.i c2), .p (.i c3)] True (.p (.b false)) := ⟨fun _ => by have := refRight_w c1 c2 c3; rwa [h] at this⟩
  repeat' (first
      | refine rnC ?_
      | refine rnSB ?_
      | refine rnG ?_
      | refine rnU ?_
      | ((fail_if_success (refine rnKn ?_)); refine rnP ?_ ?_ <;> (intro hq; try (have hq' := hq; simp only [hqs] at hq')))
      | refine rkC ?_
      | refine rkSB ?_
      | refine rkF ?_
      | refine rkU ?_
      | ((fail_if_success (refine rkKn ?_)); refine rkP ?_ ?_ <;> (intro hq; try (have hq' := hq; simp only [hqs] at hq')))
      | refine stp ?_
      | refine ifT ?_
      | refine ifF ?_
      | (refine ifQ ?_ ?_ <;> (try (intro hn)))
      | (refine ifB ?_ ?_ <;> (intro hq; try (have hq' := hq; simp only [hqs] at hq'))))
  refine aws_draws [] mixed (by kernel_rfl) ?_
  repeat' (first
      | refine rk_nil ?_
      | refine rkC ?_
      | refine rkSB ?_
      | refine rkF ?_
      | refine rkU ?_
      | ((fail_if_success (refine rkKn ?_)); refine rkP ?_ ?_ <;> (intro hq; try (have hq' := hq; simp only [hqs] at hq'))))
  as_aux_lemma =>
    repeat' (first
        | refine rnC ?_
        | refine rnSB ?_
        | refine rnG ?_
        | refine rnU ?_
        | ((fail_if_success (refine rnKn ?_)); refine rnP ?_ ?_ <;> (intro hq; try (have hq' := hq; simp only [hqs] at hq')))
        | refine rkC ?_
        | refine rkSB ?_
        | refine rkF ?_
        | refine rkU ?_
        | ((fail_if_success (refine rkKn ?_)); refine rkP ?_ ?_ <;> (intro hq; try (have hq' := hq; simp only [hqs] at hq')))
        | refine stp ?_
        | refine aws_draws [] mixed (by kernel_rfl) ?_
        | refine ifT ?_
        | refine ifF ?_
        | (refine ifQ ?_ ?_ <;> (try (intro hn)))
        | (refine ifB ?_ ?_ <;> (intro hq; try (have hq' := hq; simp only [hqs] at hq'))))
    exact rt1 rfl rfl finS_p (rb rfl)
/-- what is left to show behind the parts' lists, and that it is enough -/
def RT9 : Σ' X : World → (Nat → Prop) → (Nat → Prop) → Mu → Nat → Nat → Nat → Int → Int → List Int → (Nat → Nat) → List Int → List Int → (Nat → Nat) → Nat → (Nat → AV) → (Nat → Nat × Option MO) → Nat → (Nat → AV) → (Nat → Nat × Option MO) → Prop, ∀ (n v r : Nat) (part node : Int) (h : rRight n v r = true), (∀ (w0 : World) (F S0 : Nat → Prop) (M0 : Mu) (m : List Int) (ν : Nat → Nat) (P O : List Int) (ν1 : Nat → Nat) (i : Nat) (β : Nat → AV) (γ : Nat → Nat × Option MO) (g : Nat) (β1 : Nat → AV) (γ1 : Nat → Nat × Option MO), m = partsTo n v r node 8 → X w0 F S0 M0 n v r part node m ν P O ν1 i β γ g β1 γ1) → PCall Try.prog 3 [.a [.p (.i n), .p (.i v), .p (.i r)], .p (.i part), .p (.i node)] (.p (.b true)) := by
  apply PSigma.mk
  intro n v r part node h HX
  refine pcall_of Try.func3 rfl (fun w0 F S0 M0 => ?_)
  obtain ⟨hn1, hn8, hv1, hv16, hr1, hrn⟩ := right_is h
  haveI : ∀ c k : Nat, OC Try.prog 6 [.a [.p (.i n), .p (.i v), .p (.i r)]] [] [(c, k)] True (.tup [.one (.ptr c k 0), .one (.p (.i 0))]) [(c, (k + 1, some (ringM n v r)))] := fun c k => ⟨fun _ => newM_i.call h⟩
  haveI : PC Try.prog 7 [.a [.p (.i n), .p (.i v), .p (.i r)]] True (.p (.b true)) := ⟨fun _ => by have := ringRight_w n v r; rwa [h] at this⟩
  haveI : PC Try.prog 8 [.p (.i n), .p (.i v), .p (.i r)] True (.p (.b true)) := ⟨fun _ => by have := refRight_w n v r; rwa [h] at this⟩
  obtain ⟨L, hL⟩ : ∃ L, L = pts n v := ⟨_, rfl⟩
  have hLl : L.length ≤ 128 := by rw [hL, pts_len]; have := Nat.mul_le_mul hn8 hv16; omega
  obtain ⟨P, hP⟩ : ∃ P, P = L.map (·.1) := ⟨_, rfl⟩
  obtain ⟨O, hO⟩ : ∃ O, O = L.map (·.2) := ⟨_, rfl⟩
  have hPl : P.length ≤ 128 := by rw [hP, List.length_map]; exact hLl
  have hOl : O.length ≤ 128 := by rw [hO, List.length_map]; exact hLl
  haveI : PC Try.prog 10 [.p (.i n), .p (.i v)] True (.tup [.one (.p (.sl 1 (P.map uR) false)), .one (.p (.sl 1 (O.map iR) false))]) := ⟨fun _ => by rw [hP, hO, hL]; exact refRing_w n v hn8 hv16⟩
  haveI : ∀ c g m : Nat, OC Try.prog 11 [.o (.ptr c g 0)] [(c, (m, some (ringM n v r)))] [] (m = g + 1) (.p (.sl 1 (P.map uR) false)) [(c, (m, some (ringM n v r)))] := fun c g m => ⟨fun h => by rw [hP, hL]; exact points1_i.call ⟨h, hn8, hv16⟩⟩
  haveI : ∀ c g m : Nat, OC Try.prog 13 [.o (.ptr c g 0)] [(c, (m, some (ringM n v r)))] [] (m = g + 1) (.p (.sl 1 (O.map iR) false)) [(c, (m, some (ringM n v r)))] := fun c g m => ⟨fun h => by rw [hO, hL]; exact owners1_i.call ⟨h, hn8, hv16⟩⟩
  haveI hRL : ∀ k : Nat, PC Try.prog 15 [.p (.sl 1 (P.map uR) false), .p (.sl 1 (O.map iR) false), .p (.i r), .p (.i k)] (k < 8) (.p (.sl 1 ((lstF n v r k).map iR) false)) := fun k => ⟨fun hk => by
    have := refList_w L false false r k (by omega) (by omega) ⟨by omega, by omega⟩
    rw [← hP, ← hO] at this
    unfold lstF
    rw [if_pos (by omega), ← hL]
    exact this⟩
  clear hP hO
  have e0 : decide ((P.length : Int) ≠ (P.length : Int)) = false := decide_eq_false fun k => k rfl
  have e1 : decide (O = O) = true := decide_eq_true rfl
  have e1' : (!decide (O = O)) = false := by rw [e1]; rfl
  have e6 : (!vEqB [Value.int .i64 (n : Int), .int .i64 (v : Int), .int .i64 (r : Int)] [Value.int .i64 (n : Int), .int .i64 (v : Int), .int .i64 (r : Int)]) = false := by simp [vEqB, vEq]
  repeat' (first
      | refine rnC ?_
      | refine rnSB ?_
      | refine rnG ?_
      | refine rnU ?_
      | ((fail_if_success (refine rnKn ?_)); refine rnP ?_ ?_ <;> (intro hq; try (have hq' := hq; simp only [hqs] at hq')))
      | refine rkC ?_
      | refine rkSB ?_
      | refine rkF ?_
      | refine rkU ?_
      | ((fail_if_success (refine rkKn ?_)); refine rkP ?_ ?_ <;> (intro hq; try (have hq' := hq; simp only [hqs] at hq')))
      | refine stp ?_
      | refine ifT ?_
      | refine ifF ?_
      | (refine ifQ ?_ ?_ <;> (try (intro hn)))
      | (refine ifB ?_ ?_ <;> (intro hq; try (have hq' := hq; simp only [hqs] at hq'))))
  refine aws_draws [] mixed (by kernel_rfl) ?_
  repeat' (first
      | refine rk_nil ?_
      | refine rkC ?_
      | refine rkSB ?_
      | refine rkF ?_
      | refine rkU ?_
      | ((fail_if_success (refine rkKn ?_)); refine rkP ?_ ?_ <;> (intro hq; try (have hq' := hq; simp only [hqs] at hq'))))
  repeat' (first
      | refine rnC ?_
      | refine rnSB ?_
      | refine rnG ?_
      | refine rnU ?_
      | ((fail_if_success (refine rnKn ?_)); refine rnP ?_ ?_ <;> (intro hq; try (have hq' := hq; simp only [hqs] at hq')))
      | refine rkC ?_
      | refine rkSB ?_
      | refine rkF ?_
      | refine rkU ?_
      | ((fail_if_success (refine rkKn ?_)); refine rkP ?_ ?_ <;> (intro hq; try (have hq' := hq; simp only [hqs] at hq')))
      | refine stp ?_
      | refine ifT ?_
      | refine ifF ?_
      | (refine ifQ ?_ ?_ <;> (try (intro hn)))
      | (refine ifB ?_ ?_ <;> (intro hq; try (have hq' := hq; simp only [hqs] at hq'))))
  refine aws_draws [(7, 23), (14, 23)] mixed (by kernel_rfl) ?_
  repeat' (first
      | refine rk_nil ?_
      | refine rkC ?_
      | refine rkSB ?_
      | refine rkF ?_
      | refine rkU ?_
      | ((fail_if_success (refine rkKn ?_)); refine rkP ?_ ?_ <;> (intro hq; try (have hq' := hq; simp only [hqs] at hq'))))
  repeat' (first
      | refine rnC ?_
      | refine rnSB ?_
      | refine rnG ?_
      | refine rnU ?_
      | ((fail_if_success (refine rnKn ?_)); refine rnP ?_ ?_ <;> (intro hq; try (have hq' := hq; simp only [hqs] at hq')))
      | refine rkC ?_
      | refine rkSB ?_
      | refine rkF ?_
      | refine rkU ?_
      | ((fail_if_success (refine rkKn ?_)); refine rkP ?_ ?_ <;> (intro hq; try (have hq' := hq; simp only [hqs] at hq')))
      | refine stp ?_
      | refine ifT ?_
      | refine ifF ?_
      | (refine ifQ ?_ ?_ <;> (try (intro hn)))
      | (refine ifB ?_ ?_ <;> (intro hq; try (have hq' := hq; simp only [hqs] at hq'))))
  refine aws_sm [(1, .p (.i part)), (2, .p (.i node)), (3, .o (.ptr 3 0 0)), (7, .o (.ptr 23 0 0)), (9, .p (.sl 1 (P.map uR) false)), (10, .p (.sl 1 (O.map iR) false)), (11, .p (.sl 1 (P.map uR) false)), (12, .p (.i 0))] [(3, (1, some (.box 23 [.p (.i n), .p (.i v), .p (.i r)]))), (23, (1, some (ringM n v r))), (901, (0, none)), (20, (0, none))] (by exact knA) (by exact knA) fun ν1 => ?_
  refine aws_loopS [6, 12, 87, 88, 89, 90, 91, 92, 93, 94, 95, 96, 97, 98, 99, 100, 101] [] (fun (i : Nat) => [(12, .p (.i i))]) (fun _ => []) (fun i => i ≤ P.length) (fun i => P.length - i) 0 (Nat.zero_le _) (by exact knA) (by exact knA) ?_
  rintro i β γ hi
  by_cases hil : i < P.length
  · have d1 : decide ((i : Int) < (P.length : Int)) = true := decide_eq_true (by omega)
    have d2 : decide (P.getD (i : Int).toNat default ≠ P.getD (i : Int).toNat default) = false := decide_eq_false fun k => k rfl
    repeat' (first
        | refine rnC ?_
        | refine rnSB ?_
        | refine rnG ?_
        | refine rnU ?_
        | ((fail_if_success (refine rnKn ?_)); refine rnP ?_ ?_ <;> (intro hq; try (have hq' := hq; simp only [hqs] at hq')))
        | refine rkC ?_
        | refine rkSB ?_
        | refine rkF ?_
        | refine rkU ?_
        | ((fail_if_success (refine rkKn ?_)); refine rkP ?_ ?_ <;> (intro hq; try (have hq' := hq; simp only [hqs] at hq')))
        | refine stp ?_
        | refine ifT ?_
        | refine ifF ?_
        | (refine ifQ ?_ ?_ <;> (try (intro hn)))
        | (refine ifB ?_ ?_ <;> (intro hq; try (have hq' := hq; simp only [hqs] at hq'))))
    refine aws_draws [] mixed (by kernel_rfl) ?_
    repeat' (first
        | refine rk_nil ?_
        | refine rkC ?_
        | refine rkSB ?_
        | refine rkF ?_
        | refine rkU ?_
        | ((fail_if_success (refine rkKn ?_)); refine rkP ?_ ?_ <;> (intro hq; try (have hq' := hq; simp only [hqs] at hq'))))
    as_aux_lemma =>
      repeat' (first
          | refine rnC ?_
          | refine rnSB ?_
          | refine rnG ?_
          | refine rnU ?_
          | ((fail_if_success (refine rnKn ?_)); refine rnP ?_ ?_ <;> (intro hq; try (have hq' := hq; simp only [hqs] at hq')))
          | refine rkC ?_
          | refine rkSB ?_
          | refine rkF ?_
          | refine rkU ?_
          | ((fail_if_success (refine rkKn ?_)); refine rkP ?_ ?_ <;> (intro hq; try (have hq' := hq; simp only [hqs] at hq')))
          | refine stp ?_
          | refine ifT ?_
          | refine ifF ?_
          | (refine ifQ ?_ ?_ <;> (try (intro hn)))
          | (refine ifB ?_ ?_ <;> (intro hq; try (have hq' := hq; simp only [hqs] at hq'))))
      exact ⟨i + 1, _, by omega, (by show i + 1 ≤ P.length; omega), .refl, by exact frA⟩
  have d1 : decide ((i : Int) < (P.length : Int)) = false := decide_eq_false (by omega)
  clear hi
  repeat' (first
      | refine rnC ?_
      | refine rnSB ?_
      | refine rnG ?_
      | refine rnU ?_
      | ((fail_if_success (refine rnKn ?_)); refine rnP ?_ ?_ <;> (intro hq; try (have hq' := hq; simp only [hqs] at hq')))
      | refine rkC ?_
      | refine rkSB ?_
      | refine rkF ?_
      | refine rkU ?_
      | ((fail_if_success (refine rkKn ?_)); refine rkP ?_ ?_ <;> (intro hq; try (have hq' := hq; simp only [hqs] at hq')))
      | refine stp ?_
      | refine ifT ?_
      | refine ifF ?_
      | (refine ifQ ?_ ?_ <;> (try (intro hn)))
      | (refine ifB ?_ ?_ <;> (intro hq; try (have hq' := hq; simp only [hqs] at hq'))))
  refine aws_says (says_nil (t := 13) (o := 901) (ty := 3) (es := 1) rfl rfl (by decide)) ?_
  refine aws_loopS [6, 13, 14, 15, 16, 17, 102, 103, 104, 105, 106, 107, 108, 109, 110, 111, 112, 113, 114, 115, 116, 117, 118, 119, 120, 121, 122, 123, 124, 125, 126, 127, 128, 129, 130, 131, 132, 133, 134, 135, 136, 137, 138, 139, 140, 141, 142, 143, 144, 145] [23, 901] (fun (x : Nat × Nat × List Int) => [(14, .p (.i x.1)), (13, .o (.osl 901 x.2.1 1 0 x.2.2.length))]) (fun x => [(23, (1, some (ringM n v r))), (901, (x.2.1 + 1, some (.buf 3 1 (x.2.2.map iR))))])
    (fun x => x.1 ≤ 8 ∧ x.2.2 = partsTo n v r node x.1) (fun x => 8 - x.1) (0, 0, []) ⟨Nat.zero_le _, rfl⟩ (by exact knA) (by exact knA) ?_
  rintro ⟨k, g, m⟩ β1 γ1 ⟨hk, hm⟩
  simp only at hk hm
  have hml : m.length ≤ 8 := by rw [hm]; exact Nat.le_trans (partsTo_len _ _ _ _ _) hk
  dsimp only
  by_cases hk8 : k < 8
  · have d3 : decide ((k : Int) < 8) = true := decide_eq_true (by omega)
    have hll : (lstF n v r k).length ≤ 8 := Nat.le_trans (lstF_len _ _ _ _) (by omega)
    haveI := hRL k
    have hpn := show partsTo n v r node (k + 1) = if node ∈ lstF n v r k then partsTo n v r node k ++ [(k : Int)] else partsTo n v r node k from rfl
    obtain ⟨l, hl⟩ : ∃ l, l = lstF n v r k := ⟨_, rfl⟩
    haveI : PC Try.prog 15 [.p (.sl 1 (P.map uR) false), .p (.sl 1 (O.map iR) false), .p (.i r), .p (.i k)] True (.p (.sl 1 (l.map iR) false)) := ⟨fun _ => by rw [hl]; exact (hRL k).call hk8⟩
    haveI : ∀ c g m : Nat, OC Try.prog 16 [.o (.ptr c g 0), .p (.i k)] [(c, (m, some (ringM n v r)))] [] (m = g + 1) (.p (.sl 1 (l.map iR) false)) [(c, (m, some (ringM n v r)))] := fun c g m => ⟨fun h => by rw [hl]; exact list_i.call ⟨h, hn8, hv16, by omega⟩⟩
    have hH : ∀ b : Bool, decide (node ∈ l) = b → ∀ c g m : Nat, OC Try.prog 17 [.o (.ptr c g 0), .p (.i node), .p (.i k)] [(c, (m, some (ringM n v r)))] [] (m = g + 1) (.p (.b b)) [(c, (m, some (ringM n v r)))] := fun b hb c g m => ⟨fun h => by
      have := (holds_i (c := c) (g := g) (m := m) (n := n) (v := v) (r := r) (node := node) (part := k)).call ⟨h, hn8, hv16, by omega⟩
      rwa [← hl, hb] at this⟩
    rw [← hl, ← hm] at hpn
    rw [← hl] at hll
    clear hl
    have e2 : (!decide (l = l)) = false := by rw [decide_eq_true rfl]; rfl
    repeat' (first
        | refine rnC ?_
        | refine rnSB ?_
        | refine rnG ?_
        | refine rnU ?_
        | ((fail_if_success (refine rnKn ?_)); refine rnP ?_ ?_ <;> (intro hq; try (have hq' := hq; simp only [hqs] at hq')))
        | refine rkC ?_
        | refine rkSB ?_
        | refine rkF ?_
        | refine rkU ?_
        | ((fail_if_success (refine rkKn ?_)); refine rkP ?_ ?_ <;> (intro hq; try (have hq' := hq; simp only [hqs] at hq')))
        | refine stp ?_
        | refine ifT ?_
        | refine ifF ?_
        | (refine ifQ ?_ ?_ <;> (try (intro hn)))
        | (refine ifB ?_ ?_ <;> (intro hq; try (have hq' := hq; simp only [hqs] at hq'))))
    refine aws_loopS [16, 17, 112, 113, 114, 115, 116, 117, 118, 119, 120, 121, 122, 123, 124, 125, 126] [] (fun (i : Nat) => [(17, .p (.i i)), (16, .p (.b (decide (node ∈ l.take i))))]) (fun _ => []) (fun i => i ≤ l.length) (fun i => l.length - i) 0 (Nat.zero_le _) (by exact knA) (by exact knA) ?_
    rintro i β γ hi
    by_cases hil : i < l.length
    · have d4 : decide ((i : Int) < (l.length : Int)) = true := decide_eq_true (by omega)
      have ei : (i : Int).toNat = i := Int.toNat_natCast i
      by_cases hx : node ∈ l.take i
      · have d5 : decide (node ∈ l.take i) = true := decide_eq_true hx
        have d6 : decide (node ∈ l.take (i + 1)) = true := decide_eq_true (by rw [take_get' hil]; exact List.mem_append_left _ hx)
        as_aux_lemma =>
          repeat' (first
              | refine rnC ?_
              | refine rnSB ?_
              | refine rnG ?_
              | refine rnU ?_
              | ((fail_if_success (refine rnKn ?_)); refine rnP ?_ ?_ <;> (intro hq; try (have hq' := hq; simp only [hqs] at hq')))
              | refine rkC ?_
              | refine rkSB ?_
              | refine rkF ?_
              | refine rkU ?_
              | ((fail_if_success (refine rkKn ?_)); refine rkP ?_ ?_ <;> (intro hq; try (have hq' := hq; simp only [hqs] at hq')))
              | refine stp ?_
              | refine ifT ?_
              | refine ifF ?_
              | (refine ifQ ?_ ?_ <;> (try (intro hn)))
              | (refine ifB ?_ ?_ <;> (intro hq; try (have hq' := hq; simp only [hqs] at hq'))))
          refine ⟨i + 1, _, by omega, (by show i + 1 ≤ l.length; omega), .refl, ?_⟩
          try dsimp only
          rw [d6]
          exact frA
      · have d5 : decide (node ∈ l.take i) = false := decide_eq_false hx
        have d6 : decide (node ∈ l.take (i + 1)) = decide (l.getD (i : Int).toNat default = node) := decide_eq_decide.2 (by
          rw [take_get' hil, List.mem_append, List.mem_singleton, ei]
          exact ⟨fun q => (q.resolve_left hx).symm, fun q => .inr q.symm⟩)
        as_aux_lemma =>
          repeat' (first
              | refine rnC ?_
              | refine rnSB ?_
              | refine rnG ?_
              | refine rnU ?_
              | ((fail_if_success (refine rnKn ?_)); refine rnP ?_ ?_ <;> (intro hq; try (have hq' := hq; simp only [hqs] at hq')))
              | refine rkC ?_
              | refine rkSB ?_
              | refine rkF ?_
              | refine rkU ?_
              | ((fail_if_success (refine rkKn ?_)); refine rkP ?_ ?_ <;> (intro hq; try (have hq' := hq; simp only [hqs] at hq')))
              | refine stp ?_
              | refine ifT ?_
              | refine ifF ?_
              | (refine ifQ ?_ ?_ <;> (try (intro hn)))
              | (refine ifB ?_ ?_ <;> (intro hq; try (have hq' := hq; simp only [hqs] at hq'))))
          refine ⟨i + 1, _, by omega, (by show i + 1 ≤ l.length; omega), .refl, ?_⟩
          try dsimp only
          rw [d6]
          exact frA
    · have d4 : decide ((i : Int) < (l.length : Int)) = false := decide_eq_false (by omega)
      rw [show l.take i = l from List.take_of_length_le (by omega)]
      by_cases hx : node ∈ l
      · have d5 : decide (node ∈ l) = true := decide_eq_true hx
        rw [if_pos hx] at hpn
        haveI := hH true d5
        clear hH
        rw [d5]
        as_aux_lemma =>
          repeat' (first
              | refine rnC ?_
              | refine rnSB ?_
              | refine rnG ?_
              | refine rnU ?_
              | ((fail_if_success (refine rnKn ?_)); refine rnP ?_ ?_ <;> (intro hq; try (have hq' := hq; simp only [hqs] at hq')))
              | refine rkC ?_
              | refine rkSB ?_
              | refine rkF ?_
              | refine rkU ?_
              | ((fail_if_success (refine rkKn ?_)); refine rkP ?_ ?_ <;> (intro hq; try (have hq' := hq; simp only [hqs] at hq')))
              | refine stp ?_
              | refine ifT ?_
              | refine ifF ?_
              | (refine ifQ ?_ ?_ <;> (try (intro hn)))
              | (refine ifB ?_ ?_ <;> (intro hq; try (have hq' := hq; simp only [hqs] at hq'))))
          exact ⟨(k + 1, g + 1, m ++ [(k : Int)]), _, by dsimp only; omega, ⟨by dsimp only; omega, hpn.symm⟩, .refl, by exact frA⟩
      · have d5 : decide (node ∈ l) = false := decide_eq_false hx
        rw [if_neg hx] at hpn
        haveI := hH false d5
        clear hH
        rw [d5]
        as_aux_lemma =>
          repeat' (first
              | refine rnC ?_
              | refine rnSB ?_
              | refine rnG ?_
              | refine rnU ?_
              | ((fail_if_success (refine rnKn ?_)); refine rnP ?_ ?_ <;> (intro hq; try (have hq' := hq; simp only [hqs] at hq')))
              | refine rkC ?_
              | refine rkSB ?_
              | refine rkF ?_
              | refine rkU ?_
              | ((fail_if_success (refine rkKn ?_)); refine rkP ?_ ?_ <;> (intro hq; try (have hq' := hq; simp only [hqs] at hq')))
              | refine stp ?_
              | refine ifT ?_
              | refine ifF ?_
              | (refine ifQ ?_ ?_ <;> (try (intro hn)))
              | (refine ifB ?_ ?_ <;> (intro hq; try (have hq' := hq; simp only [hqs] at hq'))))
          exact ⟨(k + 1, g, m), _, by dsimp only; omega, ⟨by dsimp only; omega, hpn.symm⟩, .refl, by exact frA⟩
  have d3 : decide ((k : Int) < 8) = false := decide_eq_false (by omega)
  obtain rfl : k = 8 := by omega
  refine aws_says (says_frz (t := 13) (o := 901) rfl rfl rfl (by simp)) ?_
  refine aws_sm [(1, .p (.i part)), (2, .p (.i node)), (7, .o (.ptr 23 0 0)), (13, .p (.sl 1 (m.map iR) false)), (14, .p (.i ((8 : Nat) : Int)))] [(23, (1, some (ringM n v r))), (20, (0, none))] (by exact knA) (by exact knA) fun ν => ?_
  exact HX w0 F S0 M0 m ν P O ν1 i β γ g β1 γ1 hm
end Go.Proofs.Ytebjmleheiefdaa.Rg
namespace Go.Proofs.Ytebjmleheiefdaa.Rg
open Go Go.RowKit Go.Aw Go.Aw.Cart Go.Aw.Ord Go.Sort Go.Proofs.Ytebjmleheiefdaa.Ca
set_option linter.unusedVariables false
set_option linter.unusedSimpArgs false
set_option maxRecDepth 8000
set_option maxHeartbeats 4000000
open PB
theorem ringTells_lo (w0 : World) (F S0 : Nat → Prop) (M0 : Mu) (n v r : Nat) (part node : Int) (m : List Int) (ν : Nat → Nat) (P O : List Int) (ν1 : Nat → Nat) (i : Nat) (β : Nat → AV) (γ : Nat → Nat × Option MO) (g : Nat) (β1 : Nat → AV) (γ1 : Nat → Nat × Option MO) (h : rRight n v r = true) (hm : m = partsTo n v r node 8) (p0 : part < 0) : RT9.1 w0 F S0 M0 n v r part node m ν P O ν1 i β γ g β1 γ1 := by
  refine (?_ : AWs _ _ _ _)
  have d3 : decide (((8 : Nat) : Int) < 8) = false := by decide
  have e7 : vEqB [Value.int .i64 0, .int .i64 0, .int .i64 0] [Value.int .i64 0, .int .i64 0, .int .i64 0] = true := by simp [vEqB, vEq]
  obtain ⟨hn1, hn8, hv1, hv16, hr1, hrn⟩ := right_is h
  have hml : m.length ≤ 8 := by rw [hm]; exact partsTo_len _ _ _ _ _
  have z0 : pts 0 0 = [] := List.eq_nil_of_length_eq_zero (by rw [pts_len])
  have z1 : lstF 0 0 0 1 = [] := List.eq_nil_of_length_eq_zero (Nat.le_zero.1 (lstF_len 0 0 0 1))
  obtain ⟨E, hE⟩ : ∃ E : List Int, E = [] := ⟨[], rfl⟩
  have hE0 : E.length = 0 := by rw [hE]; rfl
  haveI : PC Try.prog 11 [.p (.v (.pointer none))] True (.p (.sl 1 (E.map uR) false)) := ⟨fun _ => by rw [hE]; exact points1Nil_w⟩
  haveI : PC Try.prog 16 [.p (.v (.pointer none)), .p (.i 1)] True (.p (.sl 1 (E.map iR) false)) := ⟨fun _ => by rw [hE]; exact listNil_w 1 (by decide)⟩
  haveI : PC Try.prog 18 [.p (.v (.pointer none)), .p (.i 1)] True (.p (.sl 1 (E.map iR) false)) := ⟨fun _ => by rw [hE]; exact partsNil_w 1⟩
  haveI : ∀ c g m : Nat, OC Try.prog 13 [.o (.ptr c g 0)] [(c, (m, some (ringM 0 0 0)))] [] (m = g + 1) (.p (.sl 1 (E.map iR) false)) [(c, (m, some (ringM 0 0 0)))] := fun c g m => ⟨fun h => by
    have := (owners1_i (c := c) (g := g) (m := m) (n := 0) (v := 0) (r := 0)).call ⟨h, by decide, by decide⟩
    rw [z0] at this; rw [hE]; exact this⟩
  haveI : ∀ c g m : Nat, OC Try.prog 16 [.o (.ptr c g 0), .p (.i 1)] [(c, (m, some (ringM 0 0 0)))] [] (m = g + 1) (.p (.sl 1 (E.map iR) false)) [(c, (m, some (ringM 0 0 0)))] := fun c g m => ⟨fun h => by
    have := (list_i (c := c) (g := g) (m := m) (n := 0) (v := 0) (r := 0) (part := 1)).call ⟨h, by decide, by decide, by decide⟩
    rw [z1] at this; rw [hE]; exact this⟩
  haveI : ∀ c g m : Nat, OC Try.prog 17 [.o (.ptr c g 0), .p (.i 1), .p (.i 1)] [(c, (m, some (ringM 0 0 0)))] [] (m = g + 1) (.p (.b false)) [(c, (m, some (ringM 0 0 0)))] := fun c g m => ⟨fun h => by
    have := (holds_i (c := c) (g := g) (m := m) (n := 0) (v := 0) (r := 0) (node := 1) (part := 1)).call ⟨h, by decide, by decide, by decide⟩
    rwa [z1, decide_eq_false (by simp)] at this⟩
  haveI : ∀ c g q : Nat, OC Try.prog 18 [.o (.ptr c g 0), .p (.i node)] [(c, (q, some (ringM n v r)))] [] (q = g + 1) (.p (.sl 1 (m.map iR) false)) [(c, (q, some (ringM n v r)))] := fun c g q => ⟨fun h => by rw [hm]; exact parts_i.call ⟨h, hn8, hv16, by omega⟩⟩
  have e3 : decide (m = m) = true := decide_eq_true rfl
  have e4 : decide ((E.length : Int) + (E.length : Int) + (E.length : Int) + (E.length : Int) + (E.length : Int) = 0) = true := decide_eq_true (by omega)
  have e5 : decide ((E.length : Int) = 0) = true := decide_eq_true (by omega)
  clear hm
  have out : (part < 0 ∨ 7 < part) → (∀ c g q : Nat, OC Try.prog 16 [.o (.ptr c g 0), .p (.i part)] [(c, (q, some (ringM n v r)))] [] (q = g + 1) (.p (.sl 1 (E.map iR) false)) [(c, (q, some (ringM n v r)))]) ∧ ∀ c g q : Nat, OC Try.prog 17 [.o (.ptr c g 0), .p (.i node), .p (.i part)] [(c, (q, some (ringM n v r)))] [] (q = g + 1) (.p (.b false)) [(c, (q, some (ringM n v r)))] := fun ho => by
    have hz : lstF n v r part = [] := lst_out (by omega)
    refine ⟨fun c g q => ⟨fun h => ?_⟩, fun c g q => ⟨fun h => ?_⟩⟩
    · have := (list_i (c := c) (g := g) (m := q) (n := n) (v := v) (r := r) (part := part)).call ⟨h, hn8, hv16, by omega⟩
      rw [hz] at this; rw [hE]; exact this
    · have := (holds_i (c := c) (g := g) (m := q) (n := n) (v := v) (r := r) (node := node) (part := part)).call ⟨h, hn8, hv16, by omega⟩
      rwa [hz, decide_eq_false (by simp)] at this
  have q0 : decide (part < 0) = true := decide_eq_true p0
  obtain ⟨o1, o2⟩ := out (.inl p0)
  haveI := o1
  haveI := o2
  clear out
  repeat' (first
      | refine rnC ?_
      | refine rnSB ?_
      | refine rnG ?_
      | refine rnU ?_
      | ((fail_if_success (refine rnKn ?_)); refine rnP ?_ ?_ <;> (intro hq; try (have hq' := hq; simp only [hqs] at hq')))
      | refine rkC ?_
      | refine rkSB ?_
      | refine rkF ?_
      | refine rkU ?_
      | ((fail_if_success (refine rkKn ?_)); refine rkP ?_ ?_ <;> (intro hq; try (have hq' := hq; simp only [hqs] at hq')))
      | refine stp ?_
      | refine ifT ?_
      | refine ifF ?_
      | (refine ifQ ?_ ?_ <;> (try (intro hn)))
      | (refine ifB ?_ ?_ <;> (intro hq; try (have hq' := hq; simp only [hqs] at hq'))))
  refine rn_says_g (says_or (o := 20) (ty := 57) (fun d => ringP d 0 0 0) false rfl) rfl rfl rfl rfl rfl rfl ?_
  as_aux_lemma =>
    repeat' (first
        | refine rnC ?_
        | refine rnSB ?_
        | refine rnG ?_
        | refine rnU ?_
        | ((fail_if_success (refine rnKn ?_)); refine rnP ?_ ?_ <;> (intro hq; try (have hq' := hq; simp only [hqs] at hq')))
        | refine rkC ?_
        | refine rkSB ?_
        | refine rkF ?_
        | refine rkU ?_
        | ((fail_if_success (refine rkKn ?_)); refine rkP ?_ ?_ <;> (intro hq; try (have hq' := hq; simp only [hqs] at hq')))
        | refine stp ?_
        | refine ifT ?_
        | refine ifF ?_
        | (refine ifQ ?_ ?_ <;> (try (intro hn)))
        | (refine ifB ?_ ?_ <;> (intro hq; try (have hq' := hq; simp only [hqs] at hq'))))
    exact rt1 rfl rfl finS_p (rb rfl)
end Go.Proofs.Ytebjmleheiefdaa.Rg
