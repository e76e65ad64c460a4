/- routes, the laws: RouteTells; routes: RouteTells over what was read -/
import Derived.Test.YthhlcdacmlnjdaaGreatQ8
namespace Go.Proofs.YthhlcdacmlnjdaaGreat.Rg
open Go Go.RowKit Go.Aw Go.Aw.Cart Go.Aw.Ord Go.Sort Go.Proofs.YthhlcdacmlnjdaaGreat.Ca
set_option linter.unusedVariables false
set_option linter.unusedSimpArgs false
set_option maxRecDepth 8000
set_option maxHeartbeats 4000000
open P14
theorem routeTells_key (c1 c2 c3 : Int) (k : List Nat) (U : List Int) (ex : Bool) (a b : Int) (h : 100 < k.length) : PCall Tryz.prog 3 [.a [.p (.i c1), .p (.i c2), .p (.i c3)], strV k, .p (.sl 1 (U.map iR) ex), .p (.i a), .p (.i b)] (.p (.b true)) := by
  refine pcall_of Tryz.func3 rfl (fun w0 F S0 M0 => ?_)
  have d1 : decide (100 < ((strOf k).size : Int)) = true := decide_eq_true (by rw [strOf_size]; omega)
  as_aux_lemma =>
    repeat' (first
        | refine rnC ?_
        | refine rnSB ?_
        | refine rnG ?_
        | refine rnU ?_
        | ((fail_if_success (refine rnKn ?_)); refine rnP ?_ ?_ <;> (intro hq; try (have hq' := hq; simp only [hqs] at hq')))
        | refine rkC ?_
        | refine rkSB ?_
        | refine rkF ?_
        | refine rkU ?_
        | ((fail_if_success (refine rkKn ?_)); refine rkP ?_ ?_ <;> (intro hq; try (have hq' := hq; simp only [hqs] at hq')))
        | refine stp ?_
        | refine ifT ?_
        | refine ifF ?_
        | (refine ifQ ?_ ?_ <;> (try (intro hn)))
        | (refine ifB ?_ ?_ <;> (intro hq; try (have hq' := hq; simp only [hqs] at hq'))))
    exact rt1 rfl rfl finS_p rfl
theorem routeTells_up (c1 c2 c3 : Int) (k : List Nat) (U : List Int) (ex : Bool) (a b : Int) (hk : k.length ≤ 100) (h : 30 < U.length) : PCall Tryz.prog 3 [.a [.p (.i c1), .p (.i c2), .p (.i c3)], strV k, .p (.sl 1 (U.map iR) ex), .p (.i a), .p (.i b)] (.p (.b true)) := by
  refine pcall_of Tryz.func3 rfl (fun w0 F S0 M0 => ?_)
  have d1 : decide (100 < ((strOf k).size : Int)) = false := decide_eq_false (by rw [strOf_size]; omega)
  have d2 : decide (30 < (U.length : Int)) = true := decide_eq_true (by omega)
  as_aux_lemma =>
    repeat' (first
        | refine rnC ?_
        | refine rnSB ?_
        | refine rnG ?_
        | refine rnU ?_
        | ((fail_if_success (refine rnKn ?_)); refine rnP ?_ ?_ <;> (intro hq; try (have hq' := hq; simp only [hqs] at hq')))
        | refine rkC ?_
        | refine rkSB ?_
        | refine rkF ?_
        | refine rkU ?_
        | ((fail_if_success (refine rkKn ?_)); refine rkP ?_ ?_ <;> (intro hq; try (have hq' := hq; simp only [hqs] at hq')))
        | refine stp ?_
        | refine ifT ?_
        | refine ifF ?_
        | (refine ifQ ?_ ?_ <;> (try (intro hn)))
        | (refine ifB ?_ ?_ <;> (intro hq; try (have hq' := hq; simp only [hqs] at hq'))))
    exact rt1 rfl rfl finS_p rfl
theorem routeTells_bad (c1 c2 c3 : Int) (k : List Nat) (U : List Int) (ex : Bool) (a b : Int) (hk : k.length ≤ 100) (hU : U.length ≤ 30) (h : rRight c1 c2 c3 = false) : PCall Tryz.prog 3 [.a [.p (.i c1), .p (.i c2), .p (.i c3)], strV k, .p (.sl 1 (U.map iR) ex), .p (.i a), .p (.i b)] (.p (.b true)) := by
  refine pcall_of Tryz.func3 rfl (fun w0 F S0 M0 => ?_)
  have d1 : decide (100 < ((strOf k).size : Int)) = false := decide_eq_false (by rw [strOf_size]; omega)
  have d2 : decide (30 < (U.length : Int)) = false := decide_eq_false (by omega)
  haveI : PC Tryz.prog 7 [.a [.p (.i c1), .p (.i c2), .p (.i c3)]] True (.tup [.one (.p (.v (.pointer none))), .one (.p (.i 1))]) := ⟨fun _ => newBad_w c1 c2 c3 h⟩
  haveI : PC Tryz.prog 8 [.p (.i c1), .p (.i c2), .p (.i c3)] True (.p (.b false)) := ⟨fun _ => by have := refRight_w c1 c2 c3; rwa [h] at this⟩
  as_aux_lemma =>
    repeat' (first
        | refine rnC ?_
        | refine rnSB ?_
        | refine rnG ?_
        | refine rnU ?_
        | ((fail_if_success (refine rnKn ?_)); refine rnP ?_ ?_ <;> (intro hq; try (have hq' := hq; simp only [hqs] at hq')))
        | refine rkC ?_
        | refine rkSB ?_
        | refine rkF ?_
        | refine rkU ?_
        | ((fail_if_success (refine rkKn ?_)); refine rkP ?_ ?_ <;> (intro hq; try (have hq' := hq; simp only [hqs] at hq')))
        | refine stp ?_
        | refine aws_draws [] mixed (by kernel_rfl) ?_
        | refine ifT ?_
        | refine ifF ?_
        | (refine ifQ ?_ ?_ <;> (try (intro hn)))
        | (refine ifB ?_ ?_ <;> (intro hq; try (have hq' := hq; simp only [hqs] at hq'))))
    exact rt1 rfl rfl finS_p (rb rfl)
theorem routeTells_good (n v r : Nat) (k : List Nat) (U : List Int) (ex : Bool) (a b : Int) (hkb : okB k) (hk : k.length ≤ 100) (hU : U.length ≤ 30) (h : rRight n v r = true) : PCall Tryz.prog 3 [.a [.p (.i n), .p (.i v), .p (.i r)], strV k, .p (.sl 1 (U.map iR) ex), .p (.i a), .p (.i b)] (.p (.b true)) := by
  refine pcall_of Tryz.func3 rfl (fun w0 F S0 M0 => ?_)
  have d1 : decide (100 < ((strOf k).size : Int)) = false := decide_eq_false (by rw [strOf_size]; omega)
  have d2 : decide (30 < (U.length : Int)) = false := decide_eq_false (by omega)
  obtain ⟨hn1, hn8, hv1, hv16, hr1, hrn⟩ := right_is h
  have hr8 : r ≤ 8 := by omega
  haveI : ∀ c k : Nat, OC Tryz.prog 7 [.a [.p (.i n), .p (.i v), .p (.i r)]] [] [(c, k)] True (.tup [.one (.ptr c k 0), .one (.p (.i 0))]) [(c, (k + 1, some (ringM n v r)))] := fun c k => ⟨fun _ => newM_i.call h⟩
  have hll := rtL_len n v r k
  have hql := peersTo_len n v r a n
  have hsl := sharesTo_len n v r a b 8
  obtain ⟨P, hP⟩ : ∃ P, P = (pts n v).map (·.1) := ⟨_, rfl⟩
  obtain ⟨W, hW⟩ : ∃ W, W = (pts n v).map (·.2) := ⟨_, rfl⟩
  obtain ⟨p, hp⟩ : ∃ p, p = pickR n v r k U := ⟨_, rfl⟩
  obtain ⟨l, hl⟩ : ∃ l, l = rtL n v r k := ⟨_, rfl⟩
  obtain ⟨O, hO⟩ : ∃ O, O = l.filter fun e => !decide (e = a) := ⟨_, rfl⟩
  obtain ⟨S, hS⟩ : ∃ S, S = sharesTo n v r a b 8 := ⟨_, rfl⟩
  obtain ⟨Q, hQ⟩ : ∃ Q, Q = peersTo n v r a n := ⟨_, rfl⟩
  have hol : O.length ≤ l.length := by rw [hO]; exact List.length_filter_le _ _
  haveI : PC Tryz.prog 9 [.p (.i n), .p (.i v), .p (.i r)] True (refV n r P W) := ⟨fun _ => by rw [hP, hW]; exact refNew_i.call ⟨hn8, hv16⟩⟩
  haveI : ∀ c g m : Nat, OC Tryz.prog 10 [.o (.ptr c g 0), strV k, .p (.sl 1 (U.map iR) ex)] [(c, (m, some (ringM n v r)))] [] (m = g + 1) (.tup [.one (.p (.i p.1)), .one (.p (.i p.2))]) [(c, (m, some (ringM n v r)))] := fun c g m => ⟨fun hm => by rw [hp, ← pick_same h]; exact rPick_i.call ⟨hm, hn8, hv16, hr8, hkb, by omega, by omega⟩⟩
  haveI : PC Tryz.prog 11 [refV n r P W, strV k, .p (.sl 1 (U.map iR) ex)] True (.tup [.one (.p (.i p.1)), .one (.p (.i p.2))]) := ⟨fun _ => by rw [hp, hP, hW]; exact refPick_i.call ⟨hn8, hv16, hr8, hkb, by omega, by omega⟩⟩
  haveI : ∀ c g m : Nat, OC Tryz.prog 13 [.o (.ptr c g 0), strV k] [(c, (m, some (ringM n v r)))] [] (m = g + 1) (.p (.sl 1 (l.map iR) false)) [(c, (m, some (ringM n v r)))] := fun c g m => ⟨fun hm => by rw [hl]; exact rList_i.call ⟨hm, hn8, hv16, hr8, hkb, by omega⟩⟩
  haveI : PC Tryz.prog 14 [refV n r P W, strV k] True (.p (.sl 1 (l.map iR) false)) := ⟨fun _ => by rw [hl, hP, hW]; exact refList13_i.call ⟨hn8, hv16, hr8, hkb, by omega⟩⟩
  obtain ⟨B, hB⟩ : ∃ B, B = decide (a ∈ l) := ⟨_, rfl⟩
  haveI : ∀ c g m : Nat, OC Tryz.prog 15 [.o (.ptr c g 0), .p (.i a), strV k] [(c, (m, some (ringM n v r)))] [] (m = g + 1) (.p (.b B)) [(c, (m, some (ringM n v r)))] := fun c g m => ⟨fun hm => by rw [hB, hl]; exact rHolds_i.call ⟨hm, hn8, hv16, hr8, hkb, by omega⟩⟩
  haveI : PC Tryz.prog 16 [.p (.sl 1 (l.map iR) false), .p (.i a)] True (.p (.b B)) := ⟨fun _ => by rw [hB]; exact rin_w _ _ _ (by rw [hl]; omega)⟩
  haveI : ∀ c g m : Nat, OC Tryz.prog 17 [.o (.ptr c g 0), strV k, .p (.i a)] [(c, (m, some (ringM n v r)))] [] (m = g + 1) (.p (.sl 1 (O.map iR) false)) [(c, (m, some (ringM n v r)))] := fun c g m => ⟨fun hm => by rw [hO, hl]; exact others_i.call ⟨hm, hn8, hv16, hr8, hkb, by omega⟩⟩
  haveI : PC Tryz.prog 18 [refV n r P W, strV k, .p (.i a)] True (.p (.sl 1 (O.map iR) false)) := ⟨fun _ => by rw [hO, hl, hP, hW]; exact refOthers_i.call ⟨hn8, hv16, hr8, hkb, by omega⟩⟩
  haveI : ∀ c g m : Nat, OC Tryz.prog 19 [.o (.ptr c g 0), .p (.i a), .p (.i b)] [(c, (m, some (ringM n v r)))] [] (m = g + 1) (.p (.sl 1 (S.map iR) false)) [(c, (m, some (ringM n v r)))] := fun c g m => ⟨fun hm => by rw [hS]; exact shared_i.call ⟨hm, hn8, hv16, hr8⟩⟩
  haveI : PC Tryz.prog 20 [refV n r P W, .p (.i a), .p (.i b)] True (.p (.sl 1 (S.map iR) false)) := ⟨fun _ => by rw [hS, hP, hW]; exact refShared_i.call ⟨hn8, hv16, hr8⟩⟩
  haveI : ∀ c g m : Nat, OC Tryz.prog 21 [.o (.ptr c g 0), .p (.i a)] [(c, (m, some (ringM n v r)))] [] (m = g + 1) (.p (.sl 1 (Q.map iR) false)) [(c, (m, some (ringM n v r)))] := fun c g m => ⟨fun hm => by rw [hQ]; exact peers_i.call ⟨hm, hn8, hv16, hr8⟩⟩
  haveI : PC Tryz.prog 22 [refV n r P W, .p (.i a)] True (.p (.sl 1 (Q.map iR) false)) := ⟨fun _ => by rw [hQ, hP, hW]; exact refPeers_i.call ⟨hn8, hv16, hr8⟩⟩
  rw [← hl] at hll
  rw [← hQ] at hql
  rw [← hS] at hsl
  clear hl hO hS hQ hp hP hW hB
  haveI : PC Tryz.prog 12 [.p (.sl 1 (l.map iR) false), .p (.sl 1 (l.map iR) false)] True (.p (.b true)) := ⟨fun _ => by have := same13_w l l false false (by omega) (by omega); rwa [decide_eq_true rfl] at this⟩
  haveI : PC Tryz.prog 12 [.p (.sl 1 (O.map iR) false), .p (.sl 1 (O.map iR) false)] True (.p (.b true)) := ⟨fun _ => by have := same13_w O O false false (by omega) (by omega); rwa [decide_eq_true rfl] at this⟩
  haveI : PC Tryz.prog 12 [.p (.sl 1 (S.map iR) false), .p (.sl 1 (S.map iR) false)] True (.p (.b true)) := ⟨fun _ => by have := same13_w S S false false (by omega) (by omega); rwa [decide_eq_true rfl] at this⟩
  haveI : PC Tryz.prog 12 [.p (.sl 1 (Q.map iR) false), .p (.sl 1 (Q.map iR) false)] True (.p (.b true)) := ⟨fun _ => by have := same13_w Q Q false false (by omega) (by omega); rwa [decide_eq_true rfl] at this⟩
  have e1 : decide (p.1 = p.1) = true := decide_eq_true rfl
  have e2 : decide (p.2 = p.2) = true := decide_eq_true rfl
  have e3 : (B == B) = true := by cases B <;> rfl
  repeat' (first
      | refine rnC ?_
      | refine rnSB ?_
      | refine rnG ?_
      | refine rnU ?_
      | ((fail_if_success (refine rnKn ?_)); refine rnP ?_ ?_ <;> (intro hq; try (have hq' := hq; simp only [hqs] at hq')))
      | refine rkC ?_
      | refine rkSB ?_
      | refine rkF ?_
      | refine rkU ?_
      | ((fail_if_success (refine rkKn ?_)); refine rkP ?_ ?_ <;> (intro hq; try (have hq' := hq; simp only [hqs] at hq')))
      | refine stp ?_
      | refine ifT ?_
      | refine ifF ?_
      | (refine ifQ ?_ ?_ <;> (try (intro hn)))
      | (refine ifB ?_ ?_ <;> (intro hq; try (have hq' := hq; simp only [hqs] at hq'))))
  refine aws_draws [(14, 29), (24, 29), (36, 29), (47, 29), (57, 29)] mixed (by kernel_rfl) ?_
  repeat' (first
      | refine rk_nil ?_
      | refine rkC ?_
      | refine rkSB ?_
      | refine rkF ?_
      | refine rkU ?_
      | ((fail_if_success (refine rkKn ?_)); refine rkP ?_ ?_ <;> (intro hq; try (have hq' := hq; simp only [hqs] at hq'))))
  as_aux_lemma =>
    repeat' (first
        | refine rnC ?_
        | refine rnSB ?_
        | refine rnG ?_
        | refine rnU ?_
        | ((fail_if_success (refine rnKn ?_)); refine rnP ?_ ?_ <;> (intro hq; try (have hq' := hq; simp only [hqs] at hq')))
        | refine rkC ?_
        | refine rkSB ?_
        | refine rkF ?_
        | refine rkU ?_
        | ((fail_if_success (refine rkKn ?_)); refine rkP ?_ ?_ <;> (intro hq; try (have hq' := hq; simp only [hqs] at hq')))
        | refine stp ?_
        | refine ifT ?_
        | refine ifF ?_
        | (refine ifQ ?_ ?_ <;> (try (intro hn)))
        | (refine ifB ?_ ?_ <;> (intro hq; try (have hq' := hq; simp only [hqs] at hq'))))
    exact rt1 rfl rfl finS_p (rb rfl)
end Go.Proofs.YthhlcdacmlnjdaaGreat.Rg
namespace Go.Proofs.YthhlcdacmlnjdaaGreat.Rg
open Go Go.RowKit Go.Aw Go.Aw.Cart Go.Proofs.YthhlcdacmlnjdaaGreat.Ca
set_option linter.unusedVariables false
set_option linter.unusedSimpArgs false
theorem routeTells_a (c : Int × Int × Int) (k : List Nat) (U : List Int) (a b : Int) (hk : okB k) : PCall Tryz.prog 3 [argAV true [.i c.1, .i c.2.1, .i c.2.2], argAV false [.v (.string (strOf k))], argAV false [.sl 1 (U.map iR) false], argAV false [.k .i64 a], argAV false [.k .i64 b]] (.p (.b true)) := by
  obtain ⟨c1, c2, c3⟩ := c
  by_cases h1 : k.length ≤ 100
  · by_cases h2 : U.length ≤ 30
    · cases h : rRight c1 c2 c3 with
      | false => exact routeTells_bad c1 c2 c3 k U false a b h1 h2 h
      | true =>
        obtain ⟨n, v, r, rfl, rfl, rfl⟩ := cfg_nat h
        exact routeTells_good n v r k U false a b hk h1 h2 h
    · exact routeTells_up c1 c2 c3 k U false a b h1 (by omega)
  · exact routeTells_key c1 c2 c3 k U false a b (by omega)
end Go.Proofs.YthhlcdacmlnjdaaGreat.Rg
