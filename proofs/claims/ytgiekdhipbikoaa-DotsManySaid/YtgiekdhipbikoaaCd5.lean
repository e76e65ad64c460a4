/- dots: the dots of two lists: of either, of both, of one alone -/
import Derived.Test.YtgiekdhipbikoaaCd4
import Derived.Test.YtgiekdhipbikoaaCaG
import Derived.Test.YtgiekdhipbikoaaCa4
namespace Go.Proofs.Ytgiekdhipbikoaa.Ca
open Go Go.RowKit Go.Aw Go.Aw.Cart
set_option linter.unusedVariables false
set_option linter.unusedSimpArgs false
set_option maxRecDepth 8000
set_option maxHeartbeats 4000000
open D4
theorem filterD_at {p : Dot → Bool} {l : List Dot} {i : Nat} (hi : i < l.length) (hp : p (l.getD i default) = true) : (l.filter p)[((l.take i).filter p).length]? = some (l.getD i default) := by
  have e : l = l.take i ++ l.getD i default :: l.drop (i + 1) := by
    rw [getD_at hi, ← List.drop_eq_getElem_cons hi, List.take_append_drop]
  conv => lhs; arg 1; rw [e]
  rw [List.filter_append, List.getElem?_append_right (Nat.le_refl _), Nat.sub_self, List.filter_cons_of_pos hp]; rfl
theorem filterD_go {p : Dot → Bool} {l : List Dot} {i : Nat} (hi : i < l.length) : ((l.take (i + 1)).filter p).length = ((l.take i).filter p).length + (if p (l.getD i default) = true then 1 else 0) := by
  rw [take_get' hi, List.filter_append, List.length_append]
  congr 1
  by_cases h : p (l.getD i default) = true
  · rw [if_pos h, List.filter_cons_of_pos h]; rfl
  · rw [if_neg h, List.filter_cons_of_neg h]; rfl
def someP (b : List Dot) (has : Bool) (d : Dot) : Bool := decide (d ∈ b) == has
def someF (a b : List Dot) (has : Bool) : List Dot := a.filter (someP b has)
theorem some1_w (a b : List Dot) (ex ey has : Bool) (ha : a.length ≤ 1000000000) (hb : b.length ≤ 1000000000) : ICall Try.prog 90 [.bx [.sl 2 (a.map dR) ex] 0, .bx [.sl 2 (b.map dR) ey] 0, .bx [.b has] 0] ((someF a b has).map dV) := by
  refine icall_of Try.func90 rfl (fun w0 F S0 M0 I yv hone hY => ?_)
  rw [List.length_map]
  obtain ⟨N, hN⟩ : ∃ N, N = (someF a b has).length := ⟨_, rfl⟩
  rw [← hN]
  repeat' (first
      | refine rnC ?_
      | refine rnSB ?_
      | refine rnG ?_
      | refine rnU ?_
      | ((fail_if_success (refine rnKn ?_)); refine rnP ?_ ?_ <;> (intro hq; try (have hq' := hq; simp only [hqs] at hq')))
      | refine rkC ?_
      | refine rkSB ?_
      | refine rkF ?_
      | refine rkU ?_
      | ((fail_if_success (refine rkKn ?_)); refine rkP ?_ ?_ <;> (intro hq; try (have hq' := hq; simp only [hqs] at hq')))
      | refine stp ?_
      | refine aws_draws [] mixed (by kernel_rfl) ?_
      | refine ifT ?_
      | refine ifF ?_
      | (refine ifQ ?_ ?_ <;> (try (intro hn)))
      | (refine ifB ?_ ?_ <;> (intro hq; try (have hq' := hq; simp only [hqs] at hq'))))
  refine aws_loopS [6, 9, 10, 11, 12, 13, 14, 15, 16, 17, 18, 19, 20, 21, 22, 23, 24] [1000, 6] (fun (x : Nat × Nat × Option MO) => [(9, .p (.i x.1))]) (fun x => [(1000, (1, some (.abs (I x.2.1)))), (6, (x.1, x.2.2))])
    (fun x => x.1 ≤ a.length ∧ x.2.1 = ((a.take x.1).filter (someP b has)).length) (fun x => a.length - x.1) (0, 0, none) ⟨Nat.zero_le _, rfl⟩ (by exact knA) (by exact knA) ?_
  rintro ⟨i, c, c6⟩ β γ ⟨hi, hc⟩
  simp only at hi hc
  dsimp only
  by_cases hil : i < a.length
  · have hd : decide ((i : Int) < (a.length : Int)) = true := decide_eq_true (by omega)
    have hgo := filterD_go (p := someP b has) hil
    cases hs : someP b has (a.getD (i : Int).toNat default) with
    | true =>
      have hs' := hs
      rw [Int.toNat_natCast] at hs'
      have hy := hY c (dV (a.getD (i : Int).toNat default)) (by
        rw [List.getElem?_map, hc]; unfold someF; rw [filterD_at hil hs', Int.toNat_natCast]; rfl)
      rw [if_pos hs'] at hgo
      have hsp : (decide (a.getD (i : Int).toNat default ∈ b) == has) = true := hs
      repeat' (first
          | refine rnC ?_
          | refine rnSB ?_
          | refine rnG ?_
          | refine rnU ?_
          | ((fail_if_success (refine rnKn ?_)); refine rnP ?_ ?_ <;> (intro hq; try (have hq' := hq; simp only [hqs] at hq')))
          | refine rkC ?_
          | refine rkSB ?_
          | refine rkF ?_
          | refine rkU ?_
          | ((fail_if_success (refine rkKn ?_)); refine rkP ?_ ?_ <;> (intro hq; try (have hq' := hq; simp only [hqs] at hq')))
          | refine stp ?_
          | refine ifT ?_
          | refine ifF ?_
          | (refine ifQ ?_ ?_ <;> (try (intro hn)))
          | (refine ifB ?_ ?_ <;> (intro hq; try (have hq' := hq; simp only [hqs] at hq'))))
      refine aws_draws [(8, 1000)] mixed (by kernel_rfl) ?_
      repeat' (first
          | refine rk_nil ?_
          | refine rkC ?_
          | refine rkSB ?_
          | refine rkF ?_
          | refine rkU ?_
          | ((fail_if_success (refine rkKn ?_)); refine rkP ?_ ?_ <;> (intro hq; try (have hq' := hq; simp only [hqs] at hq'))))
      as_aux_lemma =>
        repeat' (first
            | refine rnC ?_
            | refine rnSB ?_
            | refine rnG ?_
            | refine rnU ?_
            | ((fail_if_success (refine rnKn ?_)); refine rnP ?_ ?_ <;> (intro hq; try (have hq' := hq; simp only [hqs] at hq')))
            | refine rkC ?_
            | refine rkSB ?_
            | refine rkF ?_
            | refine rkU ?_
            | ((fail_if_success (refine rkKn ?_)); refine rkP ?_ ?_ <;> (intro hq; try (have hq' := hq; simp only [hqs] at hq')))
            | refine stp ?_
            | refine aws_draws [] mixed (by kernel_rfl) ?_
            | refine ifT ?_
            | refine ifF ?_
            | (refine ifQ ?_ ?_ <;> (try (intro hn)))
            | (refine ifB ?_ ?_ <;> (intro hq; try (have hq' := hq; simp only [hqs] at hq'))))
        exact ⟨(i + 1, c + 1, some (.box 25 (dL (a.getD (i : Int).toNat default)))), _, by dsimp only; omega, ⟨by dsimp only; omega, by dsimp only; omega⟩, .refl, by exact frA⟩
    | false =>
      have hs' := hs
      rw [Int.toNat_natCast] at hs'
      rw [if_neg (by rw [hs']; simp)] at hgo
      have hsp : (decide (a.getD (i : Int).toNat default ∈ b) == has) = false := hs
      as_aux_lemma =>
        repeat' (first
            | refine rnC ?_
            | refine rnSB ?_
            | refine rnG ?_
            | refine rnU ?_
            | ((fail_if_success (refine rnKn ?_)); refine rnP ?_ ?_ <;> (intro hq; try (have hq' := hq; simp only [hqs] at hq')))
            | refine rkC ?_
            | refine rkSB ?_
            | refine rkF ?_
            | refine rkU ?_
            | ((fail_if_success (refine rkKn ?_)); refine rkP ?_ ?_ <;> (intro hq; try (have hq' := hq; simp only [hqs] at hq')))
            | refine stp ?_
            | refine aws_draws [] mixed (by kernel_rfl) ?_
            | refine ifT ?_
            | refine ifF ?_
            | (refine ifQ ?_ ?_ <;> (try (intro hn)))
            | (refine ifB ?_ ?_ <;> (intro hq; try (have hq' := hq; simp only [hqs] at hq'))))
        exact ⟨(i + 1, c, some (.box 25 (dL (a.getD (i : Int).toNat default)))), _, by dsimp only; omega, ⟨by dsimp only; omega, by dsimp only; omega⟩, .refl, by exact frA⟩
  · have hd : decide ((i : Int) < (a.length : Int)) = false := decide_eq_false (by omega)
    obtain rfl : i = a.length := by omega
    obtain rfl : c = N := by rw [hc, hN, List.take_length]; rfl
    as_aux_lemma =>
      repeat' (first
          | refine rnC ?_
          | refine rnSB ?_
          | refine rnG ?_
          | refine rnU ?_
          | ((fail_if_success (refine rnKn ?_)); refine rnP ?_ ?_ <;> (intro hq; try (have hq' := hq; simp only [hqs] at hq')))
          | refine rkC ?_
          | refine rkSB ?_
          | refine rkF ?_
          | refine rkU ?_
          | ((fail_if_success (refine rkKn ?_)); refine rkP ?_ ?_ <;> (intro hq; try (have hq' := hq; simp only [hqs] at hq')))
          | refine stp ?_
          | refine aws_draws [] mixed (by kernel_rfl) ?_
          | refine ifT ?_
          | refine ifF ?_
          | (refine ifQ ?_ ?_ <;> (try (intro hn)))
          | (refine ifB ?_ ?_ <;> (intro hq; try (have hq' := hq; simp only [hqs] at hq'))))
      show RetO _ _ _ _ _ .normal _
      exact RetO.mk (res0 rfl rfl) ⟨.abs, trivial⟩
theorem some_w (a b : List Dot) (ex ey has : Bool) : PCall Try.prog 61 [.p (.sl 2 (a.map dR) ex), .p (.sl 2 (b.map dR) ey), .p (.b has)] (.p (.fnv 90 [.bx [.sl 2 (a.map dR) ex] 0, .bx [.sl 2 (b.map dR) ey] 0, .bx [.b has] 0])) := by
  refine pcall_of Try.func61 rfl (fun w0 F S0 M0 => ?_)
  as_aux_lemma =>
    repeat' (first
        | refine rnC ?_
        | refine rnSB ?_
        | refine rnG ?_
        | refine rnU ?_
        | ((fail_if_success (refine rnKn ?_)); refine rnP ?_ ?_ <;> (intro hq; try (have hq' := hq; simp only [hqs] at hq')))
        | refine rkC ?_
        | refine rkSB ?_
        | refine rkF ?_
        | refine rkU ?_
        | ((fail_if_success (refine rkKn ?_)); refine rkP ?_ ?_ <;> (intro hq; try (have hq' := hq; simp only [hqs] at hq')))
        | refine stp ?_
        | refine aws_draws [] mixed (by kernel_rfl) ?_
        | refine ifT ?_
        | refine ifF ?_
        | (refine ifQ ?_ ?_ <;> (try (intro hn)))
        | (refine ifB ?_ ?_ <;> (intro hq; try (have hq' := hq; simp only [hqs] at hq'))))
    exact rt1 rfl rfl finS_p rfl
instance some_i {a b : List Dot} {ex ey has : Bool} : PC Try.prog 61 [.p (.sl 2 (a.map dR) ex), .p (.sl 2 (b.map dR) ey), .p (.b has)] True (.p (.fnv 90 [.bx [.sl 2 (a.map dR) ex] 0, .bx [.sl 2 (b.map dR) ey] 0, .bx [.b has] 0])) := ⟨fun _ => some_w a b ex ey has⟩
theorem some_len (a b : List Dot) (has : Bool) : (someF a b has).length ≤ a.length := List.length_filter_le _ _
theorem meetD_w (a b : List Dot) (ex ey : Bool) (ha : a.length ≤ 1000000000) (hb : b.length ≤ 1000000000) : PCall Try.prog 26 [.p (.sl 2 (a.map dR) ex), .p (.sl 2 (b.map dR) ey)] (.p (.sl 2 ((G.dotsOf (someF a b true)).map dR) false)) := by
  refine pcall_of Try.func26 rfl (fun w0 F S0 M0 => ?_)
  haveI : PC Try.prog 57 [.p (.fnv 90 [.bx [.sl 2 (a.map dR) ex] 0, .bx [.sl 2 (b.map dR) ey] 0, .bx [.b true] 0])] True (.p (.sl 2 ((G.dotsOf (someF a b true)).map dR) false)) := ⟨fun _ => G.set_w _ _ inferInstance _ (Nat.le_trans (some_len a b true) ha) (some1_w a b ex ey true ha hb)⟩
  as_aux_lemma =>
    repeat' (first
        | refine rnC ?_
        | refine rnSB ?_
        | refine rnG ?_
        | refine rnU ?_
        | ((fail_if_success (refine rnKn ?_)); refine rnP ?_ ?_ <;> (intro hq; try (have hq' := hq; simp only [hqs] at hq')))
        | refine rkC ?_
        | refine rkSB ?_
        | refine rkF ?_
        | refine rkU ?_
        | ((fail_if_success (refine rkKn ?_)); refine rkP ?_ ?_ <;> (intro hq; try (have hq' := hq; simp only [hqs] at hq')))
        | refine stp ?_
        | refine aws_draws [] mixed (by kernel_rfl) ?_
        | refine ifT ?_
        | refine ifF ?_
        | (refine ifQ ?_ ?_ <;> (try (intro hn)))
        | (refine ifB ?_ ?_ <;> (intro hq; try (have hq' := hq; simp only [hqs] at hq'))))
    exact rt1 rfl rfl finS_p rfl
instance meetD_i {a b : List Dot} {ex ey : Bool} : PC Try.prog 26 [.p (.sl 2 (a.map dR) ex), .p (.sl 2 (b.map dR) ey)] (a.length ≤ 1000000000 ∧ b.length ≤ 1000000000) (.p (.sl 2 ((G.dotsOf (someF a b true)).map dR) false)) := ⟨fun h => meetD_w a b ex ey h.1 h.2⟩
theorem minusD_w (a b : List Dot) (ex ey : Bool) (ha : a.length ≤ 1000000000) (hb : b.length ≤ 1000000000) : PCall Try.prog 28 [.p (.sl 2 (a.map dR) ex), .p (.sl 2 (b.map dR) ey)] (.p (.sl 2 ((G.dotsOf (someF a b false)).map dR) false)) := by
  refine pcall_of Try.func28 rfl (fun w0 F S0 M0 => ?_)
  haveI : PC Try.prog 57 [.p (.fnv 90 [.bx [.sl 2 (a.map dR) ex] 0, .bx [.sl 2 (b.map dR) ey] 0, .bx [.b false] 0])] True (.p (.sl 2 ((G.dotsOf (someF a b false)).map dR) false)) := ⟨fun _ => G.set_w _ _ inferInstance _ (Nat.le_trans (some_len a b false) ha) (some1_w a b ex ey false ha hb)⟩
  as_aux_lemma =>
    repeat' (first
        | refine rnC ?_
        | refine rnSB ?_
        | refine rnG ?_
        | refine rnU ?_
        | ((fail_if_success (refine rnKn ?_)); refine rnP ?_ ?_ <;> (intro hq; try (have hq' := hq; simp only [hqs] at hq')))
        | refine rkC ?_
        | refine rkSB ?_
        | refine rkF ?_
        | refine rkU ?_
        | ((fail_if_success (refine rkKn ?_)); refine rkP ?_ ?_ <;> (intro hq; try (have hq' := hq; simp only [hqs] at hq')))
        | refine stp ?_
        | refine aws_draws [] mixed (by kernel_rfl) ?_
        | refine ifT ?_
        | refine ifF ?_
        | (refine ifQ ?_ ?_ <;> (try (intro hn)))
        | (refine ifB ?_ ?_ <;> (intro hq; try (have hq' := hq; simp only [hqs] at hq'))))
    exact rt1 rfl rfl finS_p rfl
instance minusD_i {a b : List Dot} {ex ey : Bool} : PC Try.prog 28 [.p (.sl 2 (a.map dR) ex), .p (.sl 2 (b.map dR) ey)] (a.length ≤ 1000000000 ∧ b.length ≤ 1000000000) (.p (.sl 2 ((G.dotsOf (someF a b false)).map dR) false)) := ⟨fun h => minusD_w a b ex ey h.1 h.2⟩
/-- one list, then the other one -/
theorem join1_w (a b : List Dot) (ex ey : Bool) (ha : a.length ≤ 1000000000) (hb : b.length ≤ 1000000000) : ICall Try.prog 60 [.bx [.sl 2 (a.map dR) ex] 0, .bx [.sl 2 (b.map dR) ey] 0] ((a ++ b).map dV) := by
  refine icall_of Try.func60 rfl (fun w0 F S0 M0 I yv hone hY => ?_)
  rw [List.length_map]
  obtain ⟨N, hN⟩ : ∃ N, N = (a ++ b).length := ⟨_, rfl⟩
  rw [← hN]
  rw [List.length_append] at hN
  repeat' (first
      | refine rnC ?_
      | refine rnSB ?_
      | refine rnG ?_
      | refine rnU ?_
      | ((fail_if_success (refine rnKn ?_)); refine rnP ?_ ?_ <;> (intro hq; try (have hq' := hq; simp only [hqs] at hq')))
      | refine rkC ?_
      | refine rkSB ?_
      | refine rkF ?_
      | refine rkU ?_
      | ((fail_if_success (refine rkKn ?_)); refine rkP ?_ ?_ <;> (intro hq; try (have hq' := hq; simp only [hqs] at hq')))
      | refine stp ?_
      | refine aws_draws [] mixed (by kernel_rfl) ?_
      | refine ifT ?_
      | refine ifF ?_
      | (refine ifQ ?_ ?_ <;> (try (intro hn)))
      | (refine ifB ?_ ?_ <;> (intro hq; try (have hq' := hq; simp only [hqs] at hq'))))
  refine aws_loopS [5, 7, 11, 12, 13, 14, 15, 16, 17, 18, 19, 20, 21, 22, 23, 24, 25] [1000, 7] (fun (x : Nat × Nat × Option MO) => [(11, .p (.i x.1))]) (fun x => [(1000, (1, some (.abs (I x.2.1)))), (7, (x.2.1, x.2.2))])
    (fun x => x.1 ≤ 2 ∧ x.2.1 = (if x.1 = 0 then 0 else if x.1 = 1 then a.length else a.length + b.length)) (fun x => 2 - x.1) (0, 0, none) ⟨by decide, rfl⟩ (by exact knA) (by exact knA) ?_
  rintro ⟨j, c, c7⟩ β γ ⟨hj, hc⟩
  simp only at hj hc
  dsimp only
  rcases (show j = 0 ∨ j = 1 ∨ j = 2 by omega) with rfl | rfl | rfl
  · have hd : decide (((0 : Nat) : Int) < 2) = true := rfl
    rw [if_pos rfl] at hc
    subst hc
    repeat' (first
        | refine rnC ?_
        | refine rnSB ?_
        | refine rnG ?_
        | refine rnU ?_
        | ((fail_if_success (refine rnKn ?_)); refine rnP ?_ ?_ <;> (intro hq; try (have hq' := hq; simp only [hqs] at hq')))
        | refine rkC ?_
        | refine rkSB ?_
        | refine rkF ?_
        | refine rkU ?_
        | ((fail_if_success (refine rkKn ?_)); refine rkP ?_ ?_ <;> (intro hq; try (have hq' := hq; simp only [hqs] at hq')))
        | refine stp ?_
        | refine aws_draws [] mixed (by kernel_rfl) ?_
        | refine ifT ?_
        | refine ifF ?_
        | (refine ifQ ?_ ?_ <;> (try (intro hn)))
        | (refine ifB ?_ ?_ <;> (intro hq; try (have hq' := hq; simp only [hqs] at hq'))))
    refine aws_loopS [7, 16, 17, 18, 19, 20, 21, 22, 23, 24] [1000, 7] (fun (x : Nat × Option MO) => [(16, .p (.i x.1))]) (fun x => [(1000, (1, some (.abs (I x.1)))), (7, (x.1, x.2))])
      (fun x => x.1 ≤ a.length) (fun x => a.length - x.1) (0, c7) (Nat.zero_le _) (by exact knA) (by exact knA) ?_
    rintro ⟨i, q7⟩ β γ hi
    simp only at hi
    dsimp only
    by_cases hil : i < a.length
    · have h2 : decide ((i : Int) < (a.length : Int)) = true := decide_eq_true (by omega)
      have hy := hY i (dV (a.getD (i : Int).toNat default)) (by
        rw [List.getElem?_map, List.getElem?_append_left hil, Int.toNat_natCast, getD_at hil, List.getElem?_eq_getElem hil]; rfl)
      as_aux_lemma =>
        repeat' (first
            | refine rnC ?_
            | refine rnSB ?_
            | refine rnG ?_
            | refine rnU ?_
            | ((fail_if_success (refine rnKn ?_)); refine rnP ?_ ?_ <;> (intro hq; try (have hq' := hq; simp only [hqs] at hq')))
            | refine rkC ?_
            | refine rkSB ?_
            | refine rkF ?_
            | refine rkU ?_
            | ((fail_if_success (refine rkKn ?_)); refine rkP ?_ ?_ <;> (intro hq; try (have hq' := hq; simp only [hqs] at hq')))
            | refine stp ?_
            | refine aws_draws [] mixed (by kernel_rfl) ?_
            | refine ifT ?_
            | refine ifF ?_
            | (refine ifQ ?_ ?_ <;> (try (intro hn)))
            | (refine ifB ?_ ?_ <;> (intro hq; try (have hq' := hq; simp only [hqs] at hq'))))
        exact ⟨(i + 1, some (.box 25 (dL (a.getD (i : Int).toNat default)))), _, by dsimp only; omega, by dsimp only; omega, .refl, by exact frA⟩
    · have h2 : decide ((i : Int) < (a.length : Int)) = false := decide_eq_false (by omega)
      obtain rfl : i = a.length := by omega
      as_aux_lemma =>
        repeat' (first
            | refine rnC ?_
            | refine rnSB ?_
            | refine rnG ?_
            | refine rnU ?_
            | ((fail_if_success (refine rnKn ?_)); refine rnP ?_ ?_ <;> (intro hq; try (have hq' := hq; simp only [hqs] at hq')))
            | refine rkC ?_
            | refine rkSB ?_
            | refine rkF ?_
            | refine rkU ?_
            | ((fail_if_success (refine rkKn ?_)); refine rkP ?_ ?_ <;> (intro hq; try (have hq' := hq; simp only [hqs] at hq')))
            | refine stp ?_
            | refine aws_draws [] mixed (by kernel_rfl) ?_
            | refine ifT ?_
            | refine ifF ?_
            | (refine ifQ ?_ ?_ <;> (try (intro hn)))
            | (refine ifB ?_ ?_ <;> (intro hq; try (have hq' := hq; simp only [hqs] at hq'))))
        exact ⟨(1, a.length, q7), _, by dsimp only; omega, ⟨by dsimp only; omega, rfl⟩, .refl, by exact frA⟩
  · have hd : decide (((1 : Nat) : Int) < 2) = true := rfl
    rw [if_neg (by decide), if_pos rfl] at hc
    subst hc
    repeat' (first
        | refine rnC ?_
        | refine rnSB ?_
        | refine rnG ?_
        | refine rnU ?_
        | ((fail_if_success (refine rnKn ?_)); refine rnP ?_ ?_ <;> (intro hq; try (have hq' := hq; simp only [hqs] at hq')))
        | refine rkC ?_
        | refine rkSB ?_
        | refine rkF ?_
        | refine rkU ?_
        | ((fail_if_success (refine rkKn ?_)); refine rkP ?_ ?_ <;> (intro hq; try (have hq' := hq; simp only [hqs] at hq')))
        | refine stp ?_
        | refine aws_draws [] mixed (by kernel_rfl) ?_
        | refine ifT ?_
        | refine ifF ?_
        | (refine ifQ ?_ ?_ <;> (try (intro hn)))
        | (refine ifB ?_ ?_ <;> (intro hq; try (have hq' := hq; simp only [hqs] at hq'))))
    refine aws_loopS [7, 16, 17, 18, 19, 20, 21, 22, 23, 24] [1000, 7] (fun (x : Nat × Option MO) => [(16, .p (.i x.1))]) (fun x => [(1000, (1, some (.abs (I (a.length + x.1))))), (7, (a.length + x.1, x.2))])
      (fun x => x.1 ≤ b.length) (fun x => b.length - x.1) (0, c7) (Nat.zero_le _) (by exact knA) (by exact knA) ?_
    rintro ⟨i, q7⟩ β γ hi
    simp only at hi
    dsimp only
    by_cases hil : i < b.length
    · have h2 : decide ((i : Int) < (b.length : Int)) = true := decide_eq_true (by omega)
      have hy := hY (a.length + i) (dV (b.getD (i : Int).toNat default)) (by
        rw [List.getElem?_map, List.getElem?_append_right (by omega), Int.toNat_natCast, getD_at hil, show a.length + i - a.length = i by omega, List.getElem?_eq_getElem hil]; rfl)
      as_aux_lemma =>
        repeat' (first
            | refine rnC ?_
            | refine rnSB ?_
            | refine rnG ?_
            | refine rnU ?_
            | ((fail_if_success (refine rnKn ?_)); refine rnP ?_ ?_ <;> (intro hq; try (have hq' := hq; simp only [hqs] at hq')))
            | refine rkC ?_
            | refine rkSB ?_
            | refine rkF ?_
            | refine rkU ?_
            | ((fail_if_success (refine rkKn ?_)); refine rkP ?_ ?_ <;> (intro hq; try (have hq' := hq; simp only [hqs] at hq')))
            | refine stp ?_
            | refine aws_draws [] mixed (by kernel_rfl) ?_
            | refine ifT ?_
            | refine ifF ?_
            | (refine ifQ ?_ ?_ <;> (try (intro hn)))
            | (refine ifB ?_ ?_ <;> (intro hq; try (have hq' := hq; simp only [hqs] at hq'))))
        exact ⟨(i + 1, some (.box 25 (dL (b.getD (i : Int).toNat default)))), _, by dsimp only; omega, by dsimp only; omega, .refl, by exact frA⟩
    · have h2 : decide ((i : Int) < (b.length : Int)) = false := decide_eq_false (by omega)
      obtain rfl : i = b.length := by omega
      as_aux_lemma =>
        repeat' (first
            | refine rnC ?_
            | refine rnSB ?_
            | refine rnG ?_
            | refine rnU ?_
            | ((fail_if_success (refine rnKn ?_)); refine rnP ?_ ?_ <;> (intro hq; try (have hq' := hq; simp only [hqs] at hq')))
            | refine rkC ?_
            | refine rkSB ?_
            | refine rkF ?_
            | refine rkU ?_
            | ((fail_if_success (refine rkKn ?_)); refine rkP ?_ ?_ <;> (intro hq; try (have hq' := hq; simp only [hqs] at hq')))
            | refine stp ?_
            | refine aws_draws [] mixed (by kernel_rfl) ?_
            | refine ifT ?_
            | refine ifF ?_
            | (refine ifQ ?_ ?_ <;> (try (intro hn)))
            | (refine ifB ?_ ?_ <;> (intro hq; try (have hq' := hq; simp only [hqs] at hq'))))
        exact ⟨(2, a.length + b.length, q7), _, by dsimp only; omega, ⟨by dsimp only; omega, rfl⟩, .refl, by exact frA⟩
  · have hd : decide (((2 : Nat) : Int) < 2) = false := rfl
    rw [if_neg (by decide), if_neg (by decide), ← hN] at hc
    subst hc
    as_aux_lemma =>
      repeat' (first
          | refine rnC ?_
          | refine rnSB ?_
          | refine rnG ?_
          | refine rnU ?_
          | ((fail_if_success (refine rnKn ?_)); refine rnP ?_ ?_ <;> (intro hq; try (have hq' := hq; simp only [hqs] at hq')))
          | refine rkC ?_
          | refine rkSB ?_
          | refine rkF ?_
          | refine rkU ?_
          | ((fail_if_success (refine rkKn ?_)); refine rkP ?_ ?_ <;> (intro hq; try (have hq' := hq; simp only [hqs] at hq')))
          | refine stp ?_
          | refine aws_draws [] mixed (by kernel_rfl) ?_
          | refine ifT ?_
          | refine ifF ?_
          | (refine ifQ ?_ ?_ <;> (try (intro hn)))
          | (refine ifB ?_ ?_ <;> (intro hq; try (have hq' := hq; simp only [hqs] at hq'))))
      show RetO _ _ _ _ _ .normal _
      exact RetO.mk (res0 rfl rfl) ⟨.abs, trivial⟩
theorem joinD_w (a b : List Dot) (ex ey : Bool) (ha : a.length ≤ 400000000) (hb : b.length ≤ 400000000) : PCall Try.prog 24 [.p (.sl 2 (a.map dR) ex), .p (.sl 2 (b.map dR) ey)] (.p (.sl 2 ((G.dotsOf (a ++ b)).map dR) false)) := by
  refine pcall_of Try.func24 rfl (fun w0 F S0 M0 => ?_)
  haveI : PC Try.prog 57 [.p (.fnv 60 [.bx [.sl 2 (a.map dR) ex] 0, .bx [.sl 2 (b.map dR) ey] 0])] True (.p (.sl 2 ((G.dotsOf (a ++ b)).map dR) false)) := ⟨fun _ => G.set_w _ _ inferInstance _ (by rw [List.length_append]; omega) (join1_w a b ex ey (by omega) (by omega))⟩
  as_aux_lemma =>
    repeat' (first
        | refine rnC ?_
        | refine rnSB ?_
        | refine rnG ?_
        | refine rnU ?_
        | ((fail_if_success (refine rnKn ?_)); refine rnP ?_ ?_ <;> (intro hq; try (have hq' := hq; simp only [hqs] at hq')))
        | refine rkC ?_
        | refine rkSB ?_
        | refine rkF ?_
        | refine rkU ?_
        | ((fail_if_success (refine rkKn ?_)); refine rkP ?_ ?_ <;> (intro hq; try (have hq' := hq; simp only [hqs] at hq')))
        | refine stp ?_
        | refine aws_draws [] mixed (by kernel_rfl) ?_
        | refine ifT ?_
        | refine ifF ?_
        | (refine ifQ ?_ ?_ <;> (try (intro hn)))
        | (refine ifB ?_ ?_ <;> (intro hq; try (have hq' := hq; simp only [hqs] at hq'))))
    exact rt1 rfl rfl finS_p rfl
instance joinD_i {a b : List Dot} {ex ey : Bool} : PC Try.prog 24 [.p (.sl 2 (a.map dR) ex), .p (.sl 2 (b.map dR) ey)] (a.length ≤ 400000000 ∧ b.length ≤ 400000000) (.p (.sl 2 ((G.dotsOf (a ++ b)).map dR) false)) := ⟨fun h => joinD_w a b ex ey h.1 h.2⟩
end Go.Proofs.Ytgiekdhipbikoaa.Ca
