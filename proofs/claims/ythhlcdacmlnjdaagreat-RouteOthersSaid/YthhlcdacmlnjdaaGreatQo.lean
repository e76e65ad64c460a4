/- routes, the laws: RouteOthers; routes: RouteOthers over what was read -/
import Derived.Test.YthhlcdacmlnjdaaGreatQ8
namespace Go.Proofs.YthhlcdacmlnjdaaGreat.Rg
open Go Go.RowKit Go.Aw Go.Aw.Cart Go.Aw.Ord Go.Sort Go.Proofs.YthhlcdacmlnjdaaGreat.Ca
set_option linter.unusedVariables false
set_option linter.unusedSimpArgs false
set_option maxRecDepth 8000
set_option maxHeartbeats 4000000
open P14
theorem routeOthers_bad (c1 c2 c3 : Int) (k : List Nat) (a : Int) (h : rRight c1 c2 c3 = false) : PCall Tryz.prog 5 [.a [.p (.i c1), .p (.i c2), .p (.i c3)], strV k, .p (.i a)] (.p (.b true)) := by
  refine pcall_of Tryz.func5 rfl (fun w0 F S0 M0 => ?_)
  haveI : PC Tryz.prog 7 [.a [.p (.i c1), .p (.i c2), .p (.i c3)]] True (.tup [.one (.p (.v (.pointer none))), .one (.p (.i 1))]) := ⟨fun _ => newBad_w c1 c2 c3 h⟩
  as_aux_lemma =>
    repeat' (first
        | refine rnC ?_
        | refine rnSB ?_
        | refine rnG ?_
        | refine rnU ?_
        | ((fail_if_success (refine rnKn ?_)); refine rnP ?_ ?_ <;> (intro hq; try (have hq' := hq; simp only [hqs] at hq')))
        | refine rkC ?_
        | refine rkSB ?_
        | refine rkF ?_
        | refine rkU ?_
        | ((fail_if_success (refine rkKn ?_)); refine rkP ?_ ?_ <;> (intro hq; try (have hq' := hq; simp only [hqs] at hq')))
        | refine stp ?_
        | refine ifT ?_
        | refine ifF ?_
        | (refine ifQ ?_ ?_ <;> (try (intro hn)))
        | (refine ifB ?_ ?_ <;> (intro hq; try (have hq' := hq; simp only [hqs] at hq'))))
    exact rt1 rfl rfl finS_p rfl
theorem routeOthers_key (n v r : Nat) (k : List Nat) (a : Int) (hkb : okB k) (hk : k.length ≤ 9223372036854775807) (h : rRight n v r = true) (hq : keyR k = false) : PCall Tryz.prog 5 [.a [.p (.i n), .p (.i v), .p (.i r)], strV k, .p (.i a)] (.p (.b true)) := by
  refine pcall_of Tryz.func5 rfl (fun w0 F S0 M0 => ?_)
  haveI : ∀ c k : Nat, OC Tryz.prog 7 [.a [.p (.i n), .p (.i v), .p (.i r)]] [] [(c, k)] True (.tup [.one (.ptr c k 0), .one (.p (.i 0))]) [(c, (k + 1, some (ringM n v r)))] := fun c k => ⟨fun _ => newM_i.call h⟩
  haveI : PC Tryz.prog 24 [strV k] True (.p (.b false)) := ⟨fun _ => by have := keyRightL_w k hkb hk; rwa [hq] at this⟩
  as_aux_lemma =>
    repeat' (first
        | refine rnC ?_
        | refine rnSB ?_
        | refine rnG ?_
        | refine rnU ?_
        | ((fail_if_success (refine rnKn ?_)); refine rnP ?_ ?_ <;> (intro hq; try (have hq' := hq; simp only [hqs] at hq')))
        | refine rkC ?_
        | refine rkSB ?_
        | refine rkF ?_
        | refine rkU ?_
        | ((fail_if_success (refine rkKn ?_)); refine rkP ?_ ?_ <;> (intro hq; try (have hq' := hq; simp only [hqs] at hq')))
        | refine stp ?_
        | refine ifT ?_
        | refine ifF ?_
        | (refine ifQ ?_ ?_ <;> (try (intro hn)))
        | (refine ifB ?_ ?_ <;> (intro hq; try (have hq' := hq; simp only [hqs] at hq'))))
    exact rt1 rfl rfl finS_p rfl
theorem routeOthers_good (n v r : Nat) (k : List Nat) (a : Int) (hkb : okB k) (h : rRight n v r = true) (hq : keyR k = true) : PCall Tryz.prog 5 [.a [.p (.i n), .p (.i v), .p (.i r)], strV k, .p (.i a)] (.p (.b true)) := by
  refine pcall_of Tryz.func5 rfl (fun w0 F S0 M0 => ?_)
  obtain ⟨hn1, hn8, hv1, hv16, hr1, hrn⟩ := right_is h
  have hr8 : r ≤ 8 := by omega
  have hk : k.length ≤ 20 := by unfold keyR at hq; exact (of_decide_eq_true hq).1.2
  haveI : ∀ c k : Nat, OC Tryz.prog 7 [.a [.p (.i n), .p (.i v), .p (.i r)]] [] [(c, k)] True (.tup [.one (.ptr c k 0), .one (.p (.i 0))]) [(c, (k + 1, some (ringM n v r)))] := fun c k => ⟨fun _ => newM_i.call h⟩
  haveI : PC Tryz.prog 24 [strV k] True (.p (.b true)) := ⟨fun _ => by have := keyRight_w k hkb (by omega); rwa [hq] at this⟩
  have hrt : rtL n v r k = lstF n v r (partF k) := by unfold rtL; rw [if_pos hq]
  have hp8 := part_lt k
  have hll : (lstF n v r (partF k)).length = r := lst_len h (by omega)
  obtain ⟨l, hl⟩ : ∃ l, l = lstF n v r (partF k) := ⟨_, rfl⟩
  obtain ⟨O, hO⟩ : ∃ O, O = l.filter fun e => !decide (e = a) := ⟨_, rfl⟩
  obtain ⟨PT, hPT⟩ : ∃ PT : Int → List Int, PT = fun x => partsTo n v r x 8 := ⟨_, rfl⟩
  have hpl : ∀ x, (PT x).length ≤ 8 := fun x => by rw [hPT]; exact partsTo_len _ _ _ _ _
  have hpi : ∀ x, x ∈ l → ((partF k : Nat) : Int) ∈ PT x := fun x hx => by rw [hPT]; exact parts_in (by rw [← hl]; exact hx) hp8
  have hol : O.length ≤ l.length := by rw [hO]; exact List.length_filter_le _ _
  have hao : a ∉ O := by rw [hO]; simp
  have hin : ∀ x, x ∈ l → x ≠ a → x ∈ O := fun x hx hne => by rw [hO]; simp [hx, hne]
  obtain ⟨P, hP⟩ : ∃ P : Nat, P = partF k := ⟨_, rfl⟩
  haveI : PC Tryz.prog 28 [strV k] True (.p (.i (P : Int))) := ⟨fun _ => by rw [hP]; exact keyPart_w k hkb (by omega)⟩
  haveI : ∀ c g m : Nat, OC Tryz.prog 13 [.o (.ptr c g 0), strV k] [(c, (m, some (ringM n v r)))] [] (m = g + 1) (.p (.sl 1 (l.map iR) false)) [(c, (m, some (ringM n v r)))] := fun c g m => ⟨fun hm => by rw [hl, ← hrt]; exact rList_i.call ⟨hm, hn8, hv16, hr8, hkb, by omega⟩⟩
  haveI : ∀ c g m : Nat, OC Tryz.prog 27 [.o (.ptr c g 0), .p (.i (P : Int))] [(c, (m, some (ringM n v r)))] [] (m = g + 1) (.p (.sl 1 (l.map iR) false)) [(c, (m, some (ringM n v r)))] := fun c g m => ⟨fun hm => by rw [hl, hP]; exact list_i.call ⟨hm, hn8, hv16, hr8⟩⟩
  haveI : ∀ c g m : Nat, OC Tryz.prog 17 [.o (.ptr c g 0), strV k, .p (.i a)] [(c, (m, some (ringM n v r)))] [] (m = g + 1) (.p (.sl 1 (O.map iR) false)) [(c, (m, some (ringM n v r)))] := fun c g m => ⟨fun hm => by rw [hO, hl, ← hrt]; exact others_i.call ⟨hm, hn8, hv16, hr8, hkb, by omega⟩⟩
  have hH : ∀ (x : Int) (c g m : Nat), OC Tryz.prog 15 [.o (.ptr c g 0), .p (.i x), strV k] [(c, (m, some (ringM n v r)))] [] (m = g + 1) (.p (.b (decide (x ∈ l)))) [(c, (m, some (ringM n v r)))] := fun x c g m => ⟨fun hm => by rw [hl, ← hrt]; exact rHolds_i.call ⟨hm, hn8, hv16, hr8, hkb, by omega⟩⟩
  haveI : ∀ (x : Int) (c g m : Nat), OC Tryz.prog 29 [.o (.ptr c g 0), .p (.i x)] [(c, (m, some (ringM n v r)))] [] (m = g + 1) (.p (.sl 1 ((PT x).map iR) false)) [(c, (m, some (ringM n v r)))] := fun x c g m => ⟨fun hm => by rw [hPT]; exact parts_i.call ⟨hm, hn8, hv16, hr8⟩⟩
  obtain ⟨B, hB⟩ : ∃ B, B = decide (a ∈ l) := ⟨_, rfl⟩
  rw [← hl] at hll
  rw [← hP] at hpi
  clear hPT hO hP hrt
  haveI : PC Tryz.prog 12 [.p (.sl 1 (l.map iR) false), .p (.sl 1 (l.map iR) false)] True (.p (.b true)) := ⟨fun _ => by have := same13_w l l false false (by omega) (by omega); rwa [decide_eq_true rfl] at this⟩
  haveI : PC Tryz.prog 23 [.p (.sl 1 (O.map iR) false), .p (.i a)] True (.p (.b false)) := ⟨fun _ => by have := lin_w O false a (by omega); rwa [decide_eq_false hao] at this⟩
  haveI : PC Tryz.prog 23 [.p (.sl 1 (l.map iR) false), .p (.i a)] True (.p (.b B)) := ⟨fun _ => by rw [hB]; exact lin_w l false a (by omega)⟩
  haveI : ∀ c g m : Nat, OC Tryz.prog 15 [.o (.ptr c g 0), .p (.i a), strV k] [(c, (m, some (ringM n v r)))] [] (m = g + 1) (.p (.b B)) [(c, (m, some (ringM n v r)))] := fun c g m => by rw [hB]; exact hH a c g m
  clear hl hB
  have e1 : (B != B) = false := by cases B <;> rfl
  have e2 : decide ((l.length : Int) = (r : Int)) = true := decide_eq_true (by omega)
  repeat' (first
      | refine rnC ?_
      | refine rnSB ?_
      | refine rnG ?_
      | refine rnU ?_
      | ((fail_if_success (refine rnKn ?_)); refine rnP ?_ ?_ <;> (intro hq; try (have hq' := hq; simp only [hqs] at hq')))
      | refine rkC ?_
      | refine rkSB ?_
      | refine rkF ?_
      | refine rkU ?_
      | ((fail_if_success (refine rkKn ?_)); refine rkP ?_ ?_ <;> (intro hq; try (have hq' := hq; simp only [hqs] at hq')))
      | refine stp ?_
      | refine ifT ?_
      | refine ifF ?_
      | (refine ifQ ?_ ?_ <;> (try (intro hn)))
      | (refine ifB ?_ ?_ <;> (intro hq; try (have hq' := hq; simp only [hqs] at hq'))))
  refine aws_loopS [6, 11, 54, 55, 56, 57, 58, 59, 60, 61, 62, 63, 64, 65, 66, 67, 68, 69, 70, 71, 72, 73, 74, 75, 76, 77, 78, 79, 80, 81, 82, 83, 84, 85, 86, 87, 88, 89, 90, 91, 92, 93, 94, 95, 96] [14] (fun (i : Nat) => [(11, .p (.i i))]) (fun _ => [(14, (1, some (ringM n v r)))]) (fun i => i ≤ l.length) (fun i => l.length - i) 0 (Nat.zero_le _) (by exact knA) (by exact knA) ?_
  rintro i β γ hi
  by_cases hil : i < l.length
  · have d3 : decide ((i : Int) < (l.length : Int)) = true := decide_eq_true (by omega)
    have hxl : l.getD (i : Int).toNat default ∈ l := by rw [Int.toNat_natCast, getD_at hil]; exact List.getElem_mem _
    have hpx := hpi _ hxl
    have hpl8 := hpl (l.getD (i : Int).toNat default)
    haveI : ∀ (c g m : Nat), OC Tryz.prog 15 [.o (.ptr c g 0), .p (.i (l.getD (i : Int).toNat default)), strV k] [(c, (m, some (ringM n v r)))] [] (m = g + 1) (.p (.b true)) [(c, (m, some (ringM n v r)))] := fun c g m => by
      have := hH (l.getD (i : Int).toNat default) c g m
      rwa [decide_eq_true hxl] at this
    haveI : PC Tryz.prog 23 [.p (.sl 1 ((PT (l.getD (i : Int).toNat default)).map iR) false), .p (.i (P : Int))] True (.p (.b true)) := ⟨fun _ => by
      have := lin_w (PT (l.getD (i : Int).toNat default)) false P (by omega)
      rwa [decide_eq_true hpx] at this⟩
    by_cases hxa : l.getD (i : Int).toNat default = a
    · have d4 : decide (l.getD (i : Int).toNat default ≠ a) = false := decide_eq_false fun q => q hxa
      clear hH
      as_aux_lemma =>
        repeat' (first
            | refine rnC ?_
            | refine rnSB ?_
            | refine rnG ?_
            | refine rnU ?_
            | ((fail_if_success (refine rnKn ?_)); refine rnP ?_ ?_ <;> (intro hq; try (have hq' := hq; simp only [hqs] at hq')))
            | refine rkC ?_
            | refine rkSB ?_
            | refine rkF ?_
            | refine rkU ?_
            | ((fail_if_success (refine rkKn ?_)); refine rkP ?_ ?_ <;> (intro hq; try (have hq' := hq; simp only [hqs] at hq')))
            | refine stp ?_
            | refine ifT ?_
            | refine ifF ?_
            | (refine ifQ ?_ ?_ <;> (try (intro hn)))
            | (refine ifB ?_ ?_ <;> (intro hq; try (have hq' := hq; simp only [hqs] at hq'))))
        exact ⟨i + 1, _, by omega, (by show i + 1 ≤ l.length; omega), .refl, by exact frA⟩
    · have d4 : decide (l.getD (i : Int).toNat default ≠ a) = true := decide_eq_true hxa
      haveI : PC Tryz.prog 23 [.p (.sl 1 (O.map iR) false), .p (.i (l.getD (i : Int).toNat default))] True (.p (.b true)) := ⟨fun _ => by
        have := lin_w O false (l.getD (i : Int).toNat default) (by omega)
        rwa [decide_eq_true (hin _ hxl hxa)] at this⟩
      clear hH
      as_aux_lemma =>
        repeat' (first
            | refine rnC ?_
            | refine rnSB ?_
            | refine rnG ?_
            | refine rnU ?_
            | ((fail_if_success (refine rnKn ?_)); refine rnP ?_ ?_ <;> (intro hq; try (have hq' := hq; simp only [hqs] at hq')))
            | refine rkC ?_
            | refine rkSB ?_
            | refine rkF ?_
            | refine rkU ?_
            | ((fail_if_success (refine rkKn ?_)); refine rkP ?_ ?_ <;> (intro hq; try (have hq' := hq; simp only [hqs] at hq')))
            | refine stp ?_
            | refine ifT ?_
            | refine ifF ?_
            | (refine ifQ ?_ ?_ <;> (try (intro hn)))
            | (refine ifB ?_ ?_ <;> (intro hq; try (have hq' := hq; simp only [hqs] at hq'))))
        exact ⟨i + 1, _, by omega, (by show i + 1 ≤ l.length; omega), .refl, by exact frA⟩
  · have d3 : decide ((i : Int) < (l.length : Int)) = false := decide_eq_false (by omega)
    clear hH
    as_aux_lemma =>
      repeat' (first
          | refine rnC ?_
          | refine rnSB ?_
          | refine rnG ?_
          | refine rnU ?_
          | ((fail_if_success (refine rnKn ?_)); refine rnP ?_ ?_ <;> (intro hq; try (have hq' := hq; simp only [hqs] at hq')))
          | refine rkC ?_
          | refine rkSB ?_
          | refine rkF ?_
          | refine rkU ?_
          | ((fail_if_success (refine rkKn ?_)); refine rkP ?_ ?_ <;> (intro hq; try (have hq' := hq; simp only [hqs] at hq')))
          | refine stp ?_
          | refine ifT ?_
          | refine ifF ?_
          | (refine ifQ ?_ ?_ <;> (try (intro hn)))
          | (refine ifB ?_ ?_ <;> (intro hq; try (have hq' := hq; simp only [hqs] at hq'))))
      exact rt1 rfl rfl finS_p (rb e2.symm)
end Go.Proofs.YthhlcdacmlnjdaaGreat.Rg
namespace Go.Proofs.YthhlcdacmlnjdaaGreat.Rg
open Go Go.RowKit Go.Aw Go.Aw.Cart Go.Proofs.YthhlcdacmlnjdaaGreat.Ca
set_option linter.unusedVariables false
set_option linter.unusedSimpArgs false
theorem routeOthers_a (c : Int × Int × Int) (k : List Nat) (a : Int) (hk : okB k ∧ k.length ≤ 9223372036854775807) : PCall Tryz.prog 5 [argAV true [.i c.1, .i c.2.1, .i c.2.2], argAV false [.v (.string (strOf k))], argAV false [.k .i64 a]] (.p (.b true)) := by
  obtain ⟨c1, c2, c3⟩ := c
  cases h : rRight c1 c2 c3 with
  | false => exact routeOthers_bad c1 c2 c3 k a h
  | true =>
    obtain ⟨n, v, r, rfl, rfl, rfl⟩ := cfg_nat h
    cases hq : keyR k with
    | true => exact routeOthers_good n v r k a hk.1 h hq
    | false => exact routeOthers_key n v r k a hk.1 hk.2 h hq
end Go.Proofs.YthhlcdacmlnjdaaGreat.Rg
