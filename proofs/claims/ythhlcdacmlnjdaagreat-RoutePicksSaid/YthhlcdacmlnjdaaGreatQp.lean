/- routes: a truth as a number; routes, the laws: RoutePicks; routes, the laws: RoutePicks, where nobody is picked; routes: RoutePicks over what was read -/
import Derived.Test.YthhlcdacmlnjdaaGreatQ8
namespace Go.Proofs.YthhlcdacmlnjdaaGreat.Rg
open Go Go.RowKit Go.Aw Go.Aw.Cart Go.Aw.Ord Go.Sort Go.Proofs.YthhlcdacmlnjdaaGreat.Ca
set_option linter.unusedVariables false
set_option linter.unusedSimpArgs false
set_option maxRecDepth 8000
set_option maxHeartbeats 4000000
open P14
def oneV (B : Bool) : Int := if B = true then 1 else 0
theorem one_w (B : Bool) : PCall Tryz.prog 26 [.p (.b B)] (.p (.i (oneV B))) := by
  refine pcall_of Tryz.func26 rfl (fun w0 F S0 M0 => ?_)
  cases B with
  | true =>
    rw [show oneV true = 1 from rfl]
    as_aux_lemma =>
      repeat' (first
          | refine rnC ?_
          | refine rnSB ?_
          | refine rnG ?_
          | refine rnU ?_
          | ((fail_if_success (refine rnKn ?_)); refine rnP ?_ ?_ <;> (intro hq; try (have hq' := hq; simp only [hqs] at hq')))
          | refine rkC ?_
          | refine rkSB ?_
          | refine rkF ?_
          | refine rkU ?_
          | ((fail_if_success (refine rkKn ?_)); refine rkP ?_ ?_ <;> (intro hq; try (have hq' := hq; simp only [hqs] at hq')))
          | refine stp ?_
          | refine ifT ?_
          | refine ifF ?_
          | (refine ifQ ?_ ?_ <;> (try (intro hn)))
          | (refine ifB ?_ ?_ <;> (intro hq; try (have hq' := hq; simp only [hqs] at hq'))))
      exact rt1 rfl rfl finS_p rfl
  | false =>
    rw [show oneV false = 0 from rfl]
    as_aux_lemma =>
      repeat' (first
          | refine rnC ?_
          | refine rnSB ?_
          | refine rnG ?_
          | refine rnU ?_
          | ((fail_if_success (refine rnKn ?_)); refine rnP ?_ ?_ <;> (intro hq; try (have hq' := hq; simp only [hqs] at hq')))
          | refine rkC ?_
          | refine rkSB ?_
          | refine rkF ?_
          | refine rkU ?_
          | ((fail_if_success (refine rkKn ?_)); refine rkP ?_ ?_ <;> (intro hq; try (have hq' := hq; simp only [hqs] at hq')))
          | refine stp ?_
          | refine ifT ?_
          | refine ifF ?_
          | (refine ifQ ?_ ?_ <;> (try (intro hn)))
          | (refine ifB ?_ ?_ <;> (intro hq; try (have hq' := hq; simp only [hqs] at hq'))))
      exact rt1 rfl rfl finS_p rfl
end Go.Proofs.YthhlcdacmlnjdaaGreat.Rg
namespace Go.Proofs.YthhlcdacmlnjdaaGreat.Rg
open Go Go.RowKit Go.Aw Go.Aw.Cart Go.Aw.Ord Go.Sort Go.Proofs.YthhlcdacmlnjdaaGreat.Ca
set_option linter.unusedVariables false
set_option linter.unusedSimpArgs false
set_option maxRecDepth 8000
set_option maxHeartbeats 4000000
open P14
theorem routePicks_bad (c1 c2 c3 : Int) (k : List Nat) (U : List Int) (ex : Bool) (a b : Int) (h : rRight c1 c2 c3 = false) : PCall Tryz.prog 4 [.a [.p (.i c1), .p (.i c2), .p (.i c3)], strV k, .p (.sl 1 (U.map iR) ex), .p (.i a), .p (.i b)] (.p (.b true)) := by
  refine pcall_of Tryz.func4 rfl (fun w0 F S0 M0 => ?_)
  haveI : PC Tryz.prog 7 [.a [.p (.i c1), .p (.i c2), .p (.i c3)]] True (.tup [.one (.p (.v (.pointer none))), .one (.p (.i 1))]) := ⟨fun _ => newBad_w c1 c2 c3 h⟩
  as_aux_lemma =>
    repeat' (first
        | refine rnC ?_
        | refine rnSB ?_
        | refine rnG ?_
        | refine rnU ?_
        | ((fail_if_success (refine rnKn ?_)); refine rnP ?_ ?_ <;> (intro hq; try (have hq' := hq; simp only [hqs] at hq')))
        | refine rkC ?_
        | refine rkSB ?_
        | refine rkF ?_
        | refine rkU ?_
        | ((fail_if_success (refine rkKn ?_)); refine rkP ?_ ?_ <;> (intro hq; try (have hq' := hq; simp only [hqs] at hq')))
        | refine stp ?_
        | refine ifT ?_
        | refine ifF ?_
        | (refine ifQ ?_ ?_ <;> (try (intro hn)))
        | (refine ifB ?_ ?_ <;> (intro hq; try (have hq' := hq; simp only [hqs] at hq'))))
    exact rt1 rfl rfl finS_p rfl
theorem routePicks_key (n v r : Nat) (k : List Nat) (U : List Int) (ex : Bool) (a b : Int) (h : rRight n v r = true) (hk : 100 < k.length) : PCall Tryz.prog 4 [.a [.p (.i n), .p (.i v), .p (.i r)], strV k, .p (.sl 1 (U.map iR) ex), .p (.i a), .p (.i b)] (.p (.b true)) := by
  refine pcall_of Tryz.func4 rfl (fun w0 F S0 M0 => ?_)
  have d1 : decide (100 < ((strOf k).size : Int)) = true := decide_eq_true (by rw [strOf_size]; omega)
  haveI : ∀ c k : Nat, OC Tryz.prog 7 [.a [.p (.i n), .p (.i v), .p (.i r)]] [] [(c, k)] True (.tup [.one (.ptr c k 0), .one (.p (.i 0))]) [(c, (k + 1, some (ringM n v r)))] := fun c k => ⟨fun _ => newM_i.call h⟩
  as_aux_lemma =>
    repeat' (first
        | refine rnC ?_
        | refine rnSB ?_
        | refine rnG ?_
        | refine rnU ?_
        | ((fail_if_success (refine rnKn ?_)); refine rnP ?_ ?_ <;> (intro hq; try (have hq' := hq; simp only [hqs] at hq')))
        | refine rkC ?_
        | refine rkSB ?_
        | refine rkF ?_
        | refine rkU ?_
        | ((fail_if_success (refine rkKn ?_)); refine rkP ?_ ?_ <;> (intro hq; try (have hq' := hq; simp only [hqs] at hq')))
        | refine stp ?_
        | refine ifT ?_
        | refine ifF ?_
        | (refine ifQ ?_ ?_ <;> (try (intro hn)))
        | (refine ifB ?_ ?_ <;> (intro hq; try (have hq' := hq; simp only [hqs] at hq'))))
    exact rt1 rfl rfl finS_p rfl
theorem routePicks_up (n v r : Nat) (k : List Nat) (U : List Int) (ex : Bool) (a b : Int) (h : rRight n v r = true) (hk : k.length ≤ 100) (hU : 30 < U.length) : PCall Tryz.prog 4 [.a [.p (.i n), .p (.i v), .p (.i r)], strV k, .p (.sl 1 (U.map iR) ex), .p (.i a), .p (.i b)] (.p (.b true)) := by
  refine pcall_of Tryz.func4 rfl (fun w0 F S0 M0 => ?_)
  have d1 : decide (100 < ((strOf k).size : Int)) = false := decide_eq_false (by rw [strOf_size]; omega)
  have d2 : decide (30 < (U.length : Int)) = true := decide_eq_true (by omega)
  haveI : ∀ c k : Nat, OC Tryz.prog 7 [.a [.p (.i n), .p (.i v), .p (.i r)]] [] [(c, k)] True (.tup [.one (.ptr c k 0), .one (.p (.i 0))]) [(c, (k + 1, some (ringM n v r)))] := fun c k => ⟨fun _ => newM_i.call h⟩
  as_aux_lemma =>
    repeat' (first
        | refine rnC ?_
        | refine rnSB ?_
        | refine rnG ?_
        | refine rnU ?_
        | ((fail_if_success (refine rnKn ?_)); refine rnP ?_ ?_ <;> (intro hq; try (have hq' := hq; simp only [hqs] at hq')))
        | refine rkC ?_
        | refine rkSB ?_
        | refine rkF ?_
        | refine rkU ?_
        | ((fail_if_success (refine rkKn ?_)); refine rkP ?_ ?_ <;> (intro hq; try (have hq' := hq; simp only [hqs] at hq')))
        | refine stp ?_
        | refine ifT ?_
        | refine ifF ?_
        | (refine ifQ ?_ ?_ <;> (try (intro hn)))
        | (refine ifB ?_ ?_ <;> (intro hq; try (have hq' := hq; simp only [hqs] at hq'))))
    exact rt1 rfl rfl finS_p rfl
theorem routePicks_ok (n v r : Nat) (k : List Nat) (U : List Int) (ex : Bool) (a b : Int) (hkb : okB k) (hk : k.length ≤ 100) (hU : U.length ≤ 30) (h : rRight n v r = true) (hz : (pickR n v r k U).2 = 0) : PCall Tryz.prog 4 [.a [.p (.i n), .p (.i v), .p (.i r)], strV k, .p (.sl 1 (U.map iR) ex), .p (.i a), .p (.i b)] (.p (.b true)) := by
  refine pcall_of Tryz.func4 rfl (fun w0 F S0 M0 => ?_)
  have d1 : decide (100 < ((strOf k).size : Int)) = false := decide_eq_false (by rw [strOf_size]; omega)
  have d2 : decide (30 < (U.length : Int)) = false := decide_eq_false (by omega)
  obtain ⟨hn1, hn8, hv1, hv16, hr1, hrn⟩ := right_is h
  have hr8 : r ≤ 8 := by omega
  haveI : ∀ c k : Nat, OC Tryz.prog 7 [.a [.p (.i n), .p (.i v), .p (.i r)]] [] [(c, k)] True (.tup [.one (.ptr c k 0), .one (.p (.i 0))]) [(c, (k + 1, some (ringM n v r)))] := fun c k => ⟨fun _ => newM_i.call h⟩
  have hll := rtL_len n v r k
  have hpl := fun x => peersTo_len n v r x n
  have hsl := sharesTo_len n v r a b 8
  have hahead := fun i hi hq => @pr_ahead n v r k U i hi hq
  have hok := @pr_ok n v r k U
  have hpos := rtL_pos (k := k) h
  have hnd := rtL_nodup n v r k
  have hsym := peers_sym (n := n) (r := r) (a := a) (b := b) hv1
  have hss := shares_sym n v r a b 8
  have hsm : ∀ x, x ∈ sharesTo n v r a b 8 → a ∈ lstF n v r x ∧ b ∈ lstF n v r x := fun x hx => shares_mem hx
  obtain ⟨p, hp⟩ : ∃ p, p = pickR n v r k U := ⟨_, rfl⟩
  rw [← hp] at hz
  obtain ⟨l, hl⟩ : ∃ l, l = rtL n v r k := ⟨_, rfl⟩
  obtain ⟨S, hS⟩ : ∃ S, S = sharesTo n v r a b 8 := ⟨_, rfl⟩
  obtain ⟨Qa, hQa⟩ : ∃ Q, Q = peersTo n v r a n := ⟨_, rfl⟩
  obtain ⟨Qb, hQb⟩ : ∃ Q, Q = peersTo n v r b n := ⟨_, rfl⟩
  have hqal : Qa.length ≤ n := by rw [hQa]; exact hpl a
  have hqbl : Qb.length ≤ n := by rw [hQb]; exact hpl b
  haveI : ∀ c g m : Nat, OC Tryz.prog 10 [.o (.ptr c g 0), strV k, .p (.sl 1 (U.map iR) ex)] [(c, (m, some (ringM n v r)))] [] (m = g + 1) (.tup [.one (.p (.i p.1)), .one (.p (.i p.2))]) [(c, (m, some (ringM n v r)))] := fun c g m => ⟨fun hm => by rw [hp, ← pick_same h]; exact rPick_i.call ⟨hm, hn8, hv16, hr8, hkb, by omega, by omega⟩⟩
  haveI : ∀ c g m : Nat, OC Tryz.prog 13 [.o (.ptr c g 0), strV k] [(c, (m, some (ringM n v r)))] [] (m = g + 1) (.p (.sl 1 (l.map iR) false)) [(c, (m, some (ringM n v r)))] := fun c g m => ⟨fun hm => by rw [hl]; exact rList_i.call ⟨hm, hn8, hv16, hr8, hkb, by omega⟩⟩
  obtain ⟨B, hB⟩ : ∃ B, B = decide (p.1 ∈ l) := ⟨_, rfl⟩
  obtain ⟨D, hD⟩ : ∃ D, D = decide (p.1 ∈ U) := ⟨_, rfl⟩
  haveI : ∀ c g m : Nat, OC Tryz.prog 15 [.o (.ptr c g 0), .p (.i p.1), strV k] [(c, (m, some (ringM n v r)))] [] (m = g + 1) (.p (.b B)) [(c, (m, some (ringM n v r)))] := fun c g m => ⟨fun hm => by rw [hB, hl]; exact rHolds_i.call ⟨hm, hn8, hv16, hr8, hkb, by omega⟩⟩
  haveI : PC Tryz.prog 23 [.p (.sl 1 (l.map iR) false), .p (.i p.1)] True (.p (.b B)) := ⟨fun _ => by rw [hB]; exact lin_w _ _ _ (by rw [hl]; omega)⟩
  haveI : PC Tryz.prog 23 [.p (.sl 1 (U.map iR) ex), .p (.i p.1)] True (.p (.b D)) := ⟨fun _ => by rw [hD]; exact lin_w _ _ _ (by omega)⟩
  obtain ⟨K, hK⟩ : ∃ K, K = keyR k := ⟨_, rfl⟩
  haveI : PC Tryz.prog 24 [strV k] True (.p (.b K)) := ⟨fun _ => by rw [hK]; exact keyRight_w k hkb (by omega)⟩
  haveI : ∀ c g m : Nat, OC Tryz.prog 19 [.o (.ptr c g 0), .p (.i a), .p (.i b)] [(c, (m, some (ringM n v r)))] [] (m = g + 1) (.p (.sl 1 (S.map iR) false)) [(c, (m, some (ringM n v r)))] := fun c g m => ⟨fun hm => by rw [hS]; exact shared_i.call ⟨hm, hn8, hv16, hr8⟩⟩
  haveI : ∀ c g m : Nat, OC Tryz.prog 19 [.o (.ptr c g 0), .p (.i b), .p (.i a)] [(c, (m, some (ringM n v r)))] [] (m = g + 1) (.p (.sl 1 (S.map iR) false)) [(c, (m, some (ringM n v r)))] := fun c g m => ⟨fun hm => by rw [hS, hss]; exact shared_i.call ⟨hm, hn8, hv16, hr8⟩⟩
  haveI : ∀ c g m : Nat, OC Tryz.prog 21 [.o (.ptr c g 0), .p (.i a)] [(c, (m, some (ringM n v r)))] [] (m = g + 1) (.p (.sl 1 (Qa.map iR) false)) [(c, (m, some (ringM n v r)))] := fun c g m => ⟨fun hm => by rw [hQa]; exact peers_i.call ⟨hm, hn8, hv16, hr8⟩⟩
  haveI : ∀ c g m : Nat, OC Tryz.prog 21 [.o (.ptr c g 0), .p (.i b)] [(c, (m, some (ringM n v r)))] [] (m = g + 1) (.p (.sl 1 (Qb.map iR) false)) [(c, (m, some (ringM n v r)))] := fun c g m => ⟨fun hm => by rw [hQb]; exact peers_i.call ⟨hm, hn8, hv16, hr8⟩⟩
  rw [← hQa, ← hQb] at hsym
  obtain ⟨E, hE⟩ : ∃ E, E = decide (b ∈ Qa) := ⟨_, rfl⟩
  haveI : PC Tryz.prog 23 [.p (.sl 1 (Qa.map iR) false), .p (.i b)] True (.p (.b E)) := ⟨fun _ => by rw [hE]; exact lin_w _ _ _ (by omega)⟩
  haveI : PC Tryz.prog 23 [.p (.sl 1 (Qb.map iR) false), .p (.i a)] True (.p (.b E)) := ⟨fun _ => by rw [hE, hsym]; exact lin_w _ _ _ (by omega)⟩
  haveI : ∀ (x : Int) (c g m : Nat), OC Tryz.prog 25 [.o (.ptr c g 0), .p (.i a), .p (.i x)] [(c, (m, some (ringM n v r)))] [] (m = g + 1 ∧ x ∈ S) (.p (.b true)) [(c, (m, some (ringM n v r)))] := fun x c g m => ⟨fun hm => by
    have := (holds_i (c := c) (g := g) (m := m) (n := n) (v := v) (r := r) (node := a) (part := x)).call ⟨hm.1, hn8, hv16, hr8⟩
    rwa [decide_eq_true (hsm x (by rw [← hS]; exact hm.2)).1] at this⟩
  haveI : ∀ (x : Int) (c g m : Nat), OC Tryz.prog 25 [.o (.ptr c g 0), .p (.i b), .p (.i x)] [(c, (m, some (ringM n v r)))] [] (m = g + 1 ∧ x ∈ S) (.p (.b true)) [(c, (m, some (ringM n v r)))] := fun x c g m => ⟨fun hm => by
    have := (holds_i (c := c) (g := g) (m := m) (n := n) (v := v) (r := r) (node := b) (part := x)).call ⟨hm.1, hn8, hv16, hr8⟩
    rwa [decide_eq_true (hsm x (by rw [← hS]; exact hm.2)).2] at this⟩
  obtain ⟨O, hO⟩ : ∃ O, O = l.filter fun e => !decide (e = p.1) := ⟨_, rfl⟩
  haveI : ∀ c g m : Nat, OC Tryz.prog 17 [.o (.ptr c g 0), strV k, .p (.i p.1)] [(c, (m, some (ringM n v r)))] [] (m = g + 1) (.p (.sl 1 (O.map iR) false)) [(c, (m, some (ringM n v r)))] := fun c g m => ⟨fun hm => by rw [hO, hl]; exact others_i.call ⟨hm, hn8, hv16, hr8, hkb, by omega⟩⟩
  obtain ⟨V, hV⟩ : ∃ V, V = oneV B := ⟨_, rfl⟩
  haveI : PC Tryz.prog 26 [.p (.b B)] True (.p (.i V)) := ⟨fun _ => by rw [hV]; exact one_w B⟩
  rw [← hl] at hll hpos hnd
  rw [← hS] at hsl
  have hol : (O.length : Int) = l.length - V := by rw [hO, hV, hB]; exact oth_len hnd
  have hV1 : 0 ≤ V ∧ V ≤ 1 := by rw [hV]; unfold oneV; split <;> omega
  rw [← hp, ← hl] at hok
  rw [← hl, ← hp] at hahead
  have hBD : p.2 = 0 → B = true ∧ D = true := fun hq => by rw [hB, hD]; exact ⟨decide_eq_true (hok hq).1, decide_eq_true (hok hq).2⟩
  haveI : PC Tryz.prog 12 [.p (.sl 1 (S.map iR) false), .p (.sl 1 (S.map iR) false)] True (.p (.b true)) := ⟨fun _ => by have := same13_w S S false false (by omega) (by omega); rwa [decide_eq_true rfl] at this⟩
  have e8 : (decide (0 < (l.length : Int)) != K) = false := by rw [hpos, hK]; cases keyR k <;> rfl
  have e9 : (E != E) = false := by cases E <;> rfl
  have e10 : decide ((O.length : Int) = (l.length : Int) - V) = true := decide_eq_true hol
  clear hS hsym hsm hss hE hQa hQb hpl hok hK hV hO hB hD
  repeat' (first
      | refine rnC ?_
      | refine rnSB ?_
      | refine rnG ?_
      | refine rnU ?_
      | ((fail_if_success (refine rnKn ?_)); refine rnP ?_ ?_ <;> (intro hq; try (have hq' := hq; simp only [hqs] at hq')))
      | refine rkC ?_
      | refine rkSB ?_
      | refine rkF ?_
      | refine rkU ?_
      | ((fail_if_success (refine rkKn ?_)); refine rkP ?_ ?_ <;> (intro hq; try (have hq' := hq; simp only [hqs] at hq')))
      | refine stp ?_
      | refine ifT ?_
      | refine ifF ?_
      | (refine ifQ ?_ ?_ <;> (try (intro hn)))
      | (refine ifB ?_ ?_ <;> (intro hq; try (have hq' := hq; simp only [hqs] at hq'))))
  refine aws_loopS [10, 16, 47, 48, 49, 50, 51, 52, 53, 54, 55, 56, 57, 58, 59, 60, 61, 62, 63, 64, 65, 66] [] (fun (i : Nat) => [(16, .p (.i i))]) (fun _ => []) (fun i => i ≤ l.length ∧ ∀ j, j < i → l.getD j default ≠ p.1) (fun i => l.length - i) 0 ⟨Nat.zero_le _, fun j hj => absurd hj (Nat.not_lt_zero _)⟩ (by exact knA) (by exact knA) ?_
  rintro i β γ ⟨hi, hx⟩
  by_cases hil : i < l.length ∧ l.getD i default ≠ p.1
  · obtain ⟨hil, hne⟩ := hil
    have d3 : decide ((i : Int) < (l.length : Int)) = true := decide_eq_true (by omega)
    have ei : (i : Int).toNat = i := Int.toNat_natCast i
    have hno : l.getD (i : Int).toNat default ∉ U := by
      rw [ei]
      refine hahead i hil fun j hj => ?_
      by_cases e : j = i
      · rw [e]; exact hne
      · exact hx j (by omega)
    have d4 : decide (l.getD (i : Int).toNat default ≠ p.1) = true := decide_eq_true (by rw [ei]; exact hne)
    haveI : PC Tryz.prog 23 [.p (.sl 1 (U.map iR) ex), .p (.i (l.getD (i : Int).toNat default))] True (.p (.b false)) := ⟨fun _ => by have := lin_w U ex (l.getD (i : Int).toNat default) (by omega); rwa [decide_eq_false hno] at this⟩
    repeat' (first
        | refine rnC ?_
        | refine rnSB ?_
        | refine rnG ?_
        | refine rnU ?_
        | ((fail_if_success (refine rnKn ?_)); refine rnP ?_ ?_ <;> (intro hq; try (have hq' := hq; simp only [hqs] at hq')))
        | refine rkC ?_
        | refine rkSB ?_
        | refine rkF ?_
        | refine rkU ?_
        | ((fail_if_success (refine rkKn ?_)); refine rkP ?_ ?_ <;> (intro hq; try (have hq' := hq; simp only [hqs] at hq')))
        | refine stp ?_
        | refine ifT ?_
        | refine ifF ?_
        | (refine ifQ ?_ ?_ <;> (try (intro hn)))
        | (refine ifB ?_ ?_ <;> (intro hq; try (have hq' := hq; simp only [hqs] at hq'))))
    refine ⟨i + 1, _, by omega, ⟨by omega, fun j hj => ?_⟩, .refl, by exact frA⟩
    by_cases e : j = i
    · rw [e]; exact hne
    · exact hx j (by omega)
  · have hex : decide ((i : Int) < (l.length : Int)) = false ∨ (i < l.length ∧ decide ((i : Int) < (l.length : Int)) = true ∧ decide (l.getD (i : Int).toNat default ≠ p.1) = false) := by
      by_cases hil2 : i < l.length
      · refine .inr ⟨hil2, decide_eq_true (by omega), decide_eq_false fun q => hil ⟨hil2, ?_⟩⟩
        rwa [show (i : Int).toNat = i from Int.toNat_natCast i] at q
      · exact .inl (decide_eq_false (by omega))
    have e0 : decide (p.2 = 0) = true := decide_eq_true hz
    obtain ⟨rfl, rfl⟩ := hBD hz
    clear hil hx hahead hBD
    rcases hex with d3 | ⟨hil2, d3, d4⟩
    all_goals
      repeat' (first
          | refine rnC ?_
          | refine rnSB ?_
          | refine rnG ?_
          | refine rnU ?_
          | ((fail_if_success (refine rnKn ?_)); refine rnP ?_ ?_ <;> (intro hq; try (have hq' := hq; simp only [hqs] at hq')))
          | refine rkC ?_
          | refine rkSB ?_
          | refine rkF ?_
          | refine rkU ?_
          | ((fail_if_success (refine rkKn ?_)); refine rkP ?_ ?_ <;> (intro hq; try (have hq' := hq; simp only [hqs] at hq')))
          | refine stp ?_
          | refine ifT ?_
          | refine ifF ?_
          | (refine ifQ ?_ ?_ <;> (try (intro hn)))
          | (refine ifB ?_ ?_ <;> (intro hq; try (have hq' := hq; simp only [hqs] at hq'))))
      refine aws_loopS [10, 18, 123, 124, 125, 126, 127, 128, 129, 130, 131, 132, 133, 134, 135, 136, 137, 138, 139, 140, 141, 142, 143, 144, 145, 146] [21] (fun (s : Nat) => [(18, .p (.i s))]) (fun _ => [(21, (1, some (ringM n v r)))]) (fun s => s ≤ S.length) (fun s => S.length - s) 0 (Nat.zero_le _) (by exact knA) (by exact knA) ?_
      rintro s β1 γ1 hs
      by_cases hsl2 : s < S.length
      · have d5 : decide ((s : Int) < (S.length : Int)) = true := decide_eq_true (by omega)
        have hxS : S.getD (s : Int).toNat default ∈ S := by rw [Int.toNat_natCast, getD_at hsl2]; exact List.getElem_mem _
        as_aux_lemma =>
          repeat' (first
              | refine rnC ?_
              | refine rnSB ?_
              | refine rnG ?_
              | refine rnU ?_
              | ((fail_if_success (refine rnKn ?_)); refine rnP ?_ ?_ <;> (intro hq; try (have hq' := hq; simp only [hqs] at hq')))
              | refine rkC ?_
              | refine rkSB ?_
              | refine rkF ?_
              | refine rkU ?_
              | ((fail_if_success (refine rkKn ?_)); refine rkP ?_ ?_ <;> (intro hq; try (have hq' := hq; simp only [hqs] at hq')))
              | refine stp ?_
              | refine ifT ?_
              | refine ifF ?_
              | (refine ifQ ?_ ?_ <;> (try (intro hn)))
              | (refine ifB ?_ ?_ <;> (intro hq; try (have hq' := hq; simp only [hqs] at hq'))))
          exact ⟨s + 1, _, by omega, (by show s + 1 ≤ S.length; omega), .refl, by exact frA⟩
      · have d5 : decide ((s : Int) < (S.length : Int)) = false := decide_eq_false (by omega)
        as_aux_lemma =>
          repeat' (first
              | refine rnC ?_
              | refine rnSB ?_
              | refine rnG ?_
              | refine rnU ?_
              | ((fail_if_success (refine rnKn ?_)); refine rnP ?_ ?_ <;> (intro hq; try (have hq' := hq; simp only [hqs] at hq')))
              | refine rkC ?_
              | refine rkSB ?_
              | refine rkF ?_
              | refine rkU ?_
              | ((fail_if_success (refine rkKn ?_)); refine rkP ?_ ?_ <;> (intro hq; try (have hq' := hq; simp only [hqs] at hq')))
              | refine stp ?_
              | refine ifT ?_
              | refine ifF ?_
              | (refine ifQ ?_ ?_ <;> (try (intro hn)))
              | (refine ifB ?_ ?_ <;> (intro hq; try (have hq' := hq; simp only [hqs] at hq'))))
          exact rt1 rfl rfl finS_p (rb e10.symm)
end Go.Proofs.YthhlcdacmlnjdaaGreat.Rg
namespace Go.Proofs.YthhlcdacmlnjdaaGreat.Rg
open Go Go.RowKit Go.Aw Go.Aw.Cart Go.Aw.Ord Go.Sort Go.Proofs.YthhlcdacmlnjdaaGreat.Ca
set_option linter.unusedVariables false
set_option linter.unusedSimpArgs false
set_option maxRecDepth 8000
set_option maxHeartbeats 4000000
open P14
theorem routePicks_err (n v r : Nat) (k : List Nat) (U : List Int) (ex : Bool) (a b : Int) (hkb : okB k) (hk : k.length ≤ 100) (hU : U.length ≤ 30) (h : rRight n v r = true) (hz : (pickR n v r k U).2 ≠ 0) : PCall Tryz.prog 4 [.a [.p (.i n), .p (.i v), .p (.i r)], strV k, .p (.sl 1 (U.map iR) ex), .p (.i a), .p (.i b)] (.p (.b true)) := by
  refine pcall_of Tryz.func4 rfl (fun w0 F S0 M0 => ?_)
  have d1 : decide (100 < ((strOf k).size : Int)) = false := decide_eq_false (by rw [strOf_size]; omega)
  have d2 : decide (30 < (U.length : Int)) = false := decide_eq_false (by omega)
  obtain ⟨hn1, hn8, hv1, hv16, hr1, hrn⟩ := right_is h
  have hr8 : r ≤ 8 := by omega
  haveI : ∀ c k : Nat, OC Tryz.prog 7 [.a [.p (.i n), .p (.i v), .p (.i r)]] [] [(c, k)] True (.tup [.one (.ptr c k 0), .one (.p (.i 0))]) [(c, (k + 1, some (ringM n v r)))] := fun c k => ⟨fun _ => newM_i.call h⟩
  have hll := rtL_len n v r k
  have hpl := fun x => peersTo_len n v r x n
  have hsl := sharesTo_len n v r a b 8
  have hahead := fun i hi hq => @pr_ahead n v r k U i hi hq
  have hok := @pr_ok n v r k U
  have hpos := rtL_pos (k := k) h
  have hnd := rtL_nodup n v r k
  have hsym := peers_sym (n := n) (r := r) (a := a) (b := b) hv1
  have hss := shares_sym n v r a b 8
  have hsm : ∀ x, x ∈ sharesTo n v r a b 8 → a ∈ lstF n v r x ∧ b ∈ lstF n v r x := fun x hx => shares_mem hx
  obtain ⟨p, hp⟩ : ∃ p, p = pickR n v r k U := ⟨_, rfl⟩
  rw [← hp] at hz
  obtain ⟨l, hl⟩ : ∃ l, l = rtL n v r k := ⟨_, rfl⟩
  obtain ⟨S, hS⟩ : ∃ S, S = sharesTo n v r a b 8 := ⟨_, rfl⟩
  obtain ⟨Qa, hQa⟩ : ∃ Q, Q = peersTo n v r a n := ⟨_, rfl⟩
  obtain ⟨Qb, hQb⟩ : ∃ Q, Q = peersTo n v r b n := ⟨_, rfl⟩
  have hqal : Qa.length ≤ n := by rw [hQa]; exact hpl a
  have hqbl : Qb.length ≤ n := by rw [hQb]; exact hpl b
  haveI : ∀ c g m : Nat, OC Tryz.prog 10 [.o (.ptr c g 0), strV k, .p (.sl 1 (U.map iR) ex)] [(c, (m, some (ringM n v r)))] [] (m = g + 1) (.tup [.one (.p (.i p.1)), .one (.p (.i p.2))]) [(c, (m, some (ringM n v r)))] := fun c g m => ⟨fun hm => by rw [hp, ← pick_same h]; exact rPick_i.call ⟨hm, hn8, hv16, hr8, hkb, by omega, by omega⟩⟩
  haveI : ∀ c g m : Nat, OC Tryz.prog 13 [.o (.ptr c g 0), strV k] [(c, (m, some (ringM n v r)))] [] (m = g + 1) (.p (.sl 1 (l.map iR) false)) [(c, (m, some (ringM n v r)))] := fun c g m => ⟨fun hm => by rw [hl]; exact rList_i.call ⟨hm, hn8, hv16, hr8, hkb, by omega⟩⟩
  obtain ⟨B, hB⟩ : ∃ B, B = decide (p.1 ∈ l) := ⟨_, rfl⟩
  obtain ⟨D, hD⟩ : ∃ D, D = decide (p.1 ∈ U) := ⟨_, rfl⟩
  haveI : ∀ c g m : Nat, OC Tryz.prog 15 [.o (.ptr c g 0), .p (.i p.1), strV k] [(c, (m, some (ringM n v r)))] [] (m = g + 1) (.p (.b B)) [(c, (m, some (ringM n v r)))] := fun c g m => ⟨fun hm => by rw [hB, hl]; exact rHolds_i.call ⟨hm, hn8, hv16, hr8, hkb, by omega⟩⟩
  haveI : PC Tryz.prog 23 [.p (.sl 1 (l.map iR) false), .p (.i p.1)] True (.p (.b B)) := ⟨fun _ => by rw [hB]; exact lin_w _ _ _ (by rw [hl]; omega)⟩
  haveI : PC Tryz.prog 23 [.p (.sl 1 (U.map iR) ex), .p (.i p.1)] True (.p (.b D)) := ⟨fun _ => by rw [hD]; exact lin_w _ _ _ (by omega)⟩
  obtain ⟨K, hK⟩ : ∃ K, K = keyR k := ⟨_, rfl⟩
  haveI : PC Tryz.prog 24 [strV k] True (.p (.b K)) := ⟨fun _ => by rw [hK]; exact keyRight_w k hkb (by omega)⟩
  haveI : ∀ c g m : Nat, OC Tryz.prog 19 [.o (.ptr c g 0), .p (.i a), .p (.i b)] [(c, (m, some (ringM n v r)))] [] (m = g + 1) (.p (.sl 1 (S.map iR) false)) [(c, (m, some (ringM n v r)))] := fun c g m => ⟨fun hm => by rw [hS]; exact shared_i.call ⟨hm, hn8, hv16, hr8⟩⟩
  haveI : ∀ c g m : Nat, OC Tryz.prog 19 [.o (.ptr c g 0), .p (.i b), .p (.i a)] [(c, (m, some (ringM n v r)))] [] (m = g + 1) (.p (.sl 1 (S.map iR) false)) [(c, (m, some (ringM n v r)))] := fun c g m => ⟨fun hm => by rw [hS, hss]; exact shared_i.call ⟨hm, hn8, hv16, hr8⟩⟩
  haveI : ∀ c g m : Nat, OC Tryz.prog 21 [.o (.ptr c g 0), .p (.i a)] [(c, (m, some (ringM n v r)))] [] (m = g + 1) (.p (.sl 1 (Qa.map iR) false)) [(c, (m, some (ringM n v r)))] := fun c g m => ⟨fun hm => by rw [hQa]; exact peers_i.call ⟨hm, hn8, hv16, hr8⟩⟩
  haveI : ∀ c g m : Nat, OC Tryz.prog 21 [.o (.ptr c g 0), .p (.i b)] [(c, (m, some (ringM n v r)))] [] (m = g + 1) (.p (.sl 1 (Qb.map iR) false)) [(c, (m, some (ringM n v r)))] := fun c g m => ⟨fun hm => by rw [hQb]; exact peers_i.call ⟨hm, hn8, hv16, hr8⟩⟩
  rw [← hQa, ← hQb] at hsym
  obtain ⟨E, hE⟩ : ∃ E, E = decide (b ∈ Qa) := ⟨_, rfl⟩
  haveI : PC Tryz.prog 23 [.p (.sl 1 (Qa.map iR) false), .p (.i b)] True (.p (.b E)) := ⟨fun _ => by rw [hE]; exact lin_w _ _ _ (by omega)⟩
  haveI : PC Tryz.prog 23 [.p (.sl 1 (Qb.map iR) false), .p (.i a)] True (.p (.b E)) := ⟨fun _ => by rw [hE, hsym]; exact lin_w _ _ _ (by omega)⟩
  haveI : ∀ (x : Int) (c g m : Nat), OC Tryz.prog 25 [.o (.ptr c g 0), .p (.i a), .p (.i x)] [(c, (m, some (ringM n v r)))] [] (m = g + 1 ∧ x ∈ S) (.p (.b true)) [(c, (m, some (ringM n v r)))] := fun x c g m => ⟨fun hm => by
    have := (holds_i (c := c) (g := g) (m := m) (n := n) (v := v) (r := r) (node := a) (part := x)).call ⟨hm.1, hn8, hv16, hr8⟩
    rwa [decide_eq_true (hsm x (by rw [← hS]; exact hm.2)).1] at this⟩
  haveI : ∀ (x : Int) (c g m : Nat), OC Tryz.prog 25 [.o (.ptr c g 0), .p (.i b), .p (.i x)] [(c, (m, some (ringM n v r)))] [] (m = g + 1 ∧ x ∈ S) (.p (.b true)) [(c, (m, some (ringM n v r)))] := fun x c g m => ⟨fun hm => by
    have := (holds_i (c := c) (g := g) (m := m) (n := n) (v := v) (r := r) (node := b) (part := x)).call ⟨hm.1, hn8, hv16, hr8⟩
    rwa [decide_eq_true (hsm x (by rw [← hS]; exact hm.2)).2] at this⟩
  obtain ⟨O, hO⟩ : ∃ O, O = l.filter fun e => !decide (e = p.1) := ⟨_, rfl⟩
  haveI : ∀ c g m : Nat, OC Tryz.prog 17 [.o (.ptr c g 0), strV k, .p (.i p.1)] [(c, (m, some (ringM n v r)))] [] (m = g + 1) (.p (.sl 1 (O.map iR) false)) [(c, (m, some (ringM n v r)))] := fun c g m => ⟨fun hm => by rw [hO, hl]; exact others_i.call ⟨hm, hn8, hv16, hr8, hkb, by omega⟩⟩
  obtain ⟨V, hV⟩ : ∃ V, V = oneV B := ⟨_, rfl⟩
  haveI : PC Tryz.prog 26 [.p (.b B)] True (.p (.i V)) := ⟨fun _ => by rw [hV]; exact one_w B⟩
  rw [← hl] at hll hpos hnd
  rw [← hS] at hsl
  have hol : (O.length : Int) = l.length - V := by rw [hO, hV, hB]; exact oth_len hnd
  have hV1 : 0 ≤ V ∧ V ≤ 1 := by rw [hV]; unfold oneV; split <;> omega
  rw [← hp, ← hl] at hok
  rw [← hl, ← hp] at hahead
  have hBD : p.2 = 0 → B = true ∧ D = true := fun hq => by rw [hB, hD]; exact ⟨decide_eq_true (hok hq).1, decide_eq_true (hok hq).2⟩
  haveI : PC Tryz.prog 12 [.p (.sl 1 (S.map iR) false), .p (.sl 1 (S.map iR) false)] True (.p (.b true)) := ⟨fun _ => by have := same13_w S S false false (by omega) (by omega); rwa [decide_eq_true rfl] at this⟩
  have e8 : (decide (0 < (l.length : Int)) != K) = false := by rw [hpos, hK]; cases keyR k <;> rfl
  have e9 : (E != E) = false := by cases E <;> rfl
  have e10 : decide ((O.length : Int) = (l.length : Int) - V) = true := decide_eq_true hol
  clear hS hsym hsm hss hE hQa hQb hpl hok hK hV hO hB hD
  repeat' (first
      | refine rnC ?_
      | refine rnSB ?_
      | refine rnG ?_
      | refine rnU ?_
      | ((fail_if_success (refine rnKn ?_)); refine rnP ?_ ?_ <;> (intro hq; try (have hq' := hq; simp only [hqs] at hq')))
      | refine rkC ?_
      | refine rkSB ?_
      | refine rkF ?_
      | refine rkU ?_
      | ((fail_if_success (refine rkKn ?_)); refine rkP ?_ ?_ <;> (intro hq; try (have hq' := hq; simp only [hqs] at hq')))
      | refine stp ?_
      | refine ifT ?_
      | refine ifF ?_
      | (refine ifQ ?_ ?_ <;> (try (intro hn)))
      | (refine ifB ?_ ?_ <;> (intro hq; try (have hq' := hq; simp only [hqs] at hq'))))
  refine aws_loopS [10, 16, 47, 48, 49, 50, 51, 52, 53, 54, 55, 56, 57, 58, 59, 60, 61, 62, 63, 64, 65, 66] [] (fun (i : Nat) => [(16, .p (.i i))]) (fun _ => []) (fun i => i ≤ l.length ∧ ∀ j, j < i → l.getD j default ≠ p.1) (fun i => l.length - i) 0 ⟨Nat.zero_le _, fun j hj => absurd hj (Nat.not_lt_zero _)⟩ (by exact knA) (by exact knA) ?_
  rintro i β γ ⟨hi, hx⟩
  by_cases hil : i < l.length ∧ l.getD i default ≠ p.1
  · obtain ⟨hil, hne⟩ := hil
    have d3 : decide ((i : Int) < (l.length : Int)) = true := decide_eq_true (by omega)
    have ei : (i : Int).toNat = i := Int.toNat_natCast i
    have hno : l.getD (i : Int).toNat default ∉ U := by
      rw [ei]
      refine hahead i hil fun j hj => ?_
      by_cases e : j = i
      · rw [e]; exact hne
      · exact hx j (by omega)
    have d4 : decide (l.getD (i : Int).toNat default ≠ p.1) = true := decide_eq_true (by rw [ei]; exact hne)
    haveI : PC Tryz.prog 23 [.p (.sl 1 (U.map iR) ex), .p (.i (l.getD (i : Int).toNat default))] True (.p (.b false)) := ⟨fun _ => by have := lin_w U ex (l.getD (i : Int).toNat default) (by omega); rwa [decide_eq_false hno] at this⟩
    repeat' (first
        | refine rnC ?_
        | refine rnSB ?_
        | refine rnG ?_
        | refine rnU ?_
        | ((fail_if_success (refine rnKn ?_)); refine rnP ?_ ?_ <;> (intro hq; try (have hq' := hq; simp only [hqs] at hq')))
        | refine rkC ?_
        | refine rkSB ?_
        | refine rkF ?_
        | refine rkU ?_
        | ((fail_if_success (refine rkKn ?_)); refine rkP ?_ ?_ <;> (intro hq; try (have hq' := hq; simp only [hqs] at hq')))
        | refine stp ?_
        | refine ifT ?_
        | refine ifF ?_
        | (refine ifQ ?_ ?_ <;> (try (intro hn)))
        | (refine ifB ?_ ?_ <;> (intro hq; try (have hq' := hq; simp only [hqs] at hq'))))
    refine ⟨i + 1, _, by omega, ⟨by omega, fun j hj => ?_⟩, .refl, by exact frA⟩
    by_cases e : j = i
    · rw [e]; exact hne
    · exact hx j (by omega)
  · have hex : decide ((i : Int) < (l.length : Int)) = false ∨ (i < l.length ∧ decide ((i : Int) < (l.length : Int)) = true ∧ decide (l.getD (i : Int).toNat default ≠ p.1) = false) := by
      by_cases hil2 : i < l.length
      · refine .inr ⟨hil2, decide_eq_true (by omega), decide_eq_false fun q => hil ⟨hil2, ?_⟩⟩
        rwa [show (i : Int).toNat = i from Int.toNat_natCast i] at q
      · exact .inl (decide_eq_false (by omega))
    have e0 : decide (p.2 = 0) = false := decide_eq_false hz
    clear hil hx hahead hBD
    rcases hex with d3 | ⟨hil2, d3, d4⟩
    all_goals
      repeat' (first
          | refine rnC ?_
          | refine rnSB ?_
          | refine rnG ?_
          | refine rnU ?_
          | ((fail_if_success (refine rnKn ?_)); refine rnP ?_ ?_ <;> (intro hq; try (have hq' := hq; simp only [hqs] at hq')))
          | refine rkC ?_
          | refine rkSB ?_
          | refine rkF ?_
          | refine rkU ?_
          | ((fail_if_success (refine rkKn ?_)); refine rkP ?_ ?_ <;> (intro hq; try (have hq' := hq; simp only [hqs] at hq')))
          | refine stp ?_
          | refine ifT ?_
          | refine ifF ?_
          | (refine ifQ ?_ ?_ <;> (try (intro hn)))
          | (refine ifB ?_ ?_ <;> (intro hq; try (have hq' := hq; simp only [hqs] at hq'))))
      refine aws_loopS [10, 18, 123, 124, 125, 126, 127, 128, 129, 130, 131, 132, 133, 134, 135, 136, 137, 138, 139, 140, 141, 142, 143, 144, 145, 146] [21] (fun (s : Nat) => [(18, .p (.i s))]) (fun _ => [(21, (1, some (ringM n v r)))]) (fun s => s ≤ S.length) (fun s => S.length - s) 0 (Nat.zero_le _) (by exact knA) (by exact knA) ?_
      rintro s β1 γ1 hs
      by_cases hsl2 : s < S.length
      · have d5 : decide ((s : Int) < (S.length : Int)) = true := decide_eq_true (by omega)
        have hxS : S.getD (s : Int).toNat default ∈ S := by rw [Int.toNat_natCast, getD_at hsl2]; exact List.getElem_mem _
        as_aux_lemma =>
          repeat' (first
              | refine rnC ?_
              | refine rnSB ?_
              | refine rnG ?_
              | refine rnU ?_
              | ((fail_if_success (refine rnKn ?_)); refine rnP ?_ ?_ <;> (intro hq; try (have hq' := hq; simp only [hqs] at hq')))
              | refine rkC ?_
              | refine rkSB ?_
              | refine rkF ?_
              | refine rkU ?_
              | ((fail_if_success (refine rkKn ?_)); refine rkP ?_ ?_ <;> (intro hq; try (have hq' := hq; simp only [hqs] at hq')))
              | refine stp ?_
              | refine ifT ?_
              | refine ifF ?_
              | (refine ifQ ?_ ?_ <;> (try (intro hn)))
              | (refine ifB ?_ ?_ <;> (intro hq; try (have hq' := hq; simp only [hqs] at hq'))))
          exact ⟨s + 1, _, by omega, (by show s + 1 ≤ S.length; omega), .refl, by exact frA⟩
      · have d5 : decide ((s : Int) < (S.length : Int)) = false := decide_eq_false (by omega)
        as_aux_lemma =>
          repeat' (first
              | refine rnC ?_
              | refine rnSB ?_
              | refine rnG ?_
              | refine rnU ?_
              | ((fail_if_success (refine rnKn ?_)); refine rnP ?_ ?_ <;> (intro hq; try (have hq' := hq; simp only [hqs] at hq')))
              | refine rkC ?_
              | refine rkSB ?_
              | refine rkF ?_
              | refine rkU ?_
              | ((fail_if_success (refine rkKn ?_)); refine rkP ?_ ?_ <;> (intro hq; try (have hq' := hq; simp only [hqs] at hq')))
              | refine stp ?_
              | refine ifT ?_
              | refine ifF ?_
              | (refine ifQ ?_ ?_ <;> (try (intro hn)))
              | (refine ifB ?_ ?_ <;> (intro hq; try (have hq' := hq; simp only [hqs] at hq'))))
          exact rt1 rfl rfl finS_p (rb e10.symm)
end Go.Proofs.YthhlcdacmlnjdaaGreat.Rg
namespace Go.Proofs.YthhlcdacmlnjdaaGreat.Rg
open Go Go.RowKit Go.Aw Go.Aw.Cart Go.Proofs.YthhlcdacmlnjdaaGreat.Ca
set_option linter.unusedVariables false
set_option linter.unusedSimpArgs false
theorem routePicks_a (c : Int × Int × Int) (k : List Nat) (U : List Int) (a b : Int) (hk : okB k) : PCall Tryz.prog 4 [argAV true [.i c.1, .i c.2.1, .i c.2.2], argAV false [.v (.string (strOf k))], argAV false [.sl 1 (U.map iR) false], argAV false [.k .i64 a], argAV false [.k .i64 b]] (.p (.b true)) := by
  obtain ⟨c1, c2, c3⟩ := c
  cases h : rRight c1 c2 c3 with
  | false => exact routePicks_bad c1 c2 c3 k U false a b h
  | true =>
    obtain ⟨n, v, r, rfl, rfl, rfl⟩ := cfg_nat h
    by_cases h1 : k.length ≤ 100
    · by_cases h2 : U.length ≤ 30
      · by_cases hz : (pickR n v r k U).2 = 0
        · exact routePicks_ok n v r k U false a b hk h1 h2 h hz
        · exact routePicks_err n v r k U false a b hk h1 h2 h hz
      · exact routePicks_up n v r k U false a b h h1 (by omega)
    · exact routePicks_key n v r k U false a b h (by omega)
end Go.Proofs.YthhlcdacmlnjdaaGreat.Rg
