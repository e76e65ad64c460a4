/- rings, the laws: RingHolds; rings: RingHolds' contract over what was read -/
import Derived.Test.YtebjmleheiefdaaQ6
import Derived.Test.YtebjmleheiefdaaQ2
namespace Go.Proofs.Ytebjmleheiefdaa.Rg
open Go Go.RowKit Go.Aw Go.Aw.Cart Go.Aw.Ord Go.Sort Go.Proofs.Ytebjmleheiefdaa.Ca
set_option linter.unusedVariables false
set_option linter.unusedSimpArgs false
set_option maxRecDepth 8000
set_option maxHeartbeats 4000000
open PB
theorem ringHolds_bad (c1 c2 c3 : Int) (h : rRight c1 c2 c3 = false) : PCall Try.prog 4 [.a [.p (.i c1), .p (.i c2), .p (.i c3)]] (.p (.b true)) := by
  refine pcall_of Try.func4 rfl (fun w0 F S0 M0 => ?_)
  haveI : PC Try.prog 6 [.a [.p (.i c1), .p (.i c2), .p (.i c3)]] True (.tup [.one (.p (.v (.pointer none))), .one (.p (.i 1))]) := ⟨fun _ => newBad_w c1 c2 c3 h⟩
  haveI : PC Try.prog 7 [.a [.p (.i c1), .p (.i c2), .p (.i c3)]] True (.p (.b false)) := ⟨fun _ => by have := ringRight_w c1 c2 c3; rwa [h] at this⟩
  as_aux_lemma =>
    repeat' (first
        | refine rnC ?_
        | refine rnSB ?_
        | refine rnG ?_
        | refine rnU ?_
        | ((fail_if_success (refine rnKn ?_)); refine rnP ?_ ?_ <;> (intro hq; try (have hq' := hq; simp only [hqs] at hq')))
        | refine rkC ?_
        | refine rkSB ?_
        | refine rkF ?_
        | refine rkU ?_
        | ((fail_if_success (refine rkKn ?_)); refine rkP ?_ ?_ <;> (intro hq; try (have hq' := hq; simp only [hqs] at hq')))
        | refine stp ?_
        | refine aws_draws [] mixed (by kernel_rfl) ?_
        | refine ifT ?_
        | refine ifF ?_
        | (refine ifQ ?_ ?_ <;> (try (intro hn)))
        | (refine ifB ?_ ?_ <;> (intro hq; try (have hq' := hq; simp only [hqs] at hq'))))
    exact rt1 rfl rfl finS_p (rb rfl)
def gP (n v r : Nat) (k : Nat) : Nat := (partsTo n v r ((k : Int) + 1) 8).length
theorem sm_parts {n v r : Nat} (h : rRight n v r = true) : sm (gP n v r) n = 8 * r := by
  obtain ⟨h1, h2, h3, h4, h5, h6⟩ := right_is h
  rw [← parts_sum (f := fun p : Nat => lstF n v r p) (m := 8) (n := n) (r := r) fun p hp => ⟨lst_nodup _ _ _ _, fun x hx => lst_mem h3 hx, lst_len h (by omega)⟩]
  exact sm_congr fun k _ => parts_len _ _ _ _ _
theorem sm_le {g : Nat → Nat} {b : Nat} (h : ∀ k, g k ≤ b) : ∀ n, sm g n ≤ n * b
  | 0 => Nat.zero_le _
  | n + 1 => by rw [sm, Nat.succ_mul]; exact Nat.add_le_add (sm_le h n) (h n)
/-- what is left to show behind the parts' lists, and that it is enough -/
def RH9 : Σ' X : World → (Nat → Prop) → (Nat → Prop) → Mu → Nat → Nat → Nat → (Nat → Nat) → Prop, ∀ (n v r : Nat) (h : rRight n v r = true), (∀ (w0 : World) (F S0 : Nat → Prop) (M0 : Mu) (ν : Nat → Nat), X w0 F S0 M0 n v r ν) → PCall Try.prog 4 [.a [.p (.i n), .p (.i v), .p (.i r)]] (.p (.b true)) := by
  apply PSigma.mk
  intro n v r h HX
  refine pcall_of Try.func4 rfl (fun w0 F S0 M0 => ?_)
  obtain ⟨hn1, hn8, hv1, hv16, hr1, hrn⟩ := right_is h
  haveI : ∀ c k : Nat, OC Try.prog 6 [.a [.p (.i n), .p (.i v), .p (.i r)]] [] [(c, k)] True (.tup [.one (.ptr c k 0), .one (.p (.i 0))]) [(c, (k + 1, some (ringM n v r)))] := fun c k => ⟨fun _ => newM_i.call h⟩
  repeat' (first
      | refine rnC ?_
      | refine rnSB ?_
      | refine rnG ?_
      | refine rnU ?_
      | ((fail_if_success (refine rnKn ?_)); refine rnP ?_ ?_ <;> (intro hq; try (have hq' := hq; simp only [hqs] at hq')))
      | refine rkC ?_
      | refine rkSB ?_
      | refine rkF ?_
      | refine rkU ?_
      | ((fail_if_success (refine rkKn ?_)); refine rkP ?_ ?_ <;> (intro hq; try (have hq' := hq; simp only [hqs] at hq')))
      | refine stp ?_
      | refine ifT ?_
      | refine ifF ?_
      | (refine ifQ ?_ ?_ <;> (try (intro hn)))
      | (refine ifB ?_ ?_ <;> (intro hq; try (have hq' := hq; simp only [hqs] at hq'))))
  refine aws_sm [(1, .o (.ptr 1 0 0)), (3, .o (.ptr 15 0 0)), (5, .p (.i 0)), (6, .p (.i 0))] [(1, (1, some (.box 23 [.p (.i n), .p (.i v), .p (.i r)]))), (15, (1, some (ringM n v r)))] (by exact knA) (by exact knA) fun ν => ?_
  refine aws_loopS [2, 6, 7, 8, 9, 26, 27, 28, 29, 30, 31, 32, 33, 34, 35, 36, 37, 38, 39, 40, 41, 42, 43, 44, 45, 46, 47, 48, 49, 50, 51, 52, 53, 54, 55, 56, 57, 58, 59, 60, 61, 62, 63, 64, 65, 66, 67, 68, 69, 70, 71, 72, 73, 74, 75, 76, 77, 78, 79, 80, 81] [15] (fun (p : Nat) => [(6, .p (.i p))]) (fun _ => [(15, (1, some (ringM n v r)))]) (fun p => p ≤ 8) (fun p => 8 - p) 0 (Nat.zero_le _) (by exact knA) (by exact knA) ?_
  rintro p β γ hp
  by_cases hp8 : p < 8
  · have d1 : decide ((p : Int) < 8) = true := decide_eq_true (by omega)
    have hlen := lst_len h (part := p) (by omega)
    have hnd := lst_nodup n v r p
    have hmem : ∀ x, x ∈ lstF n v r p → 1 ≤ x ∧ x ≤ n := fun x hx => lst_mem hv1 hx
    obtain ⟨l, hL⟩ : ∃ l, l = lstF n v r p := ⟨_, rfl⟩
    haveI : ∀ c g m : Nat, OC Try.prog 16 [.o (.ptr c g 0), .p (.i p)] [(c, (m, some (ringM n v r)))] [] (m = g + 1) (.p (.sl 1 (l.map iR) false)) [(c, (m, some (ringM n v r)))] := fun c g m => ⟨fun h => by rw [hL]; exact list_i.call ⟨h, hn8, hv16, by omega⟩⟩
    haveI : ∀ (x : Int) (c g m : Nat), OC Try.prog 17 [.o (.ptr c g 0), .p (.i x), .p (.i p)] [(c, (m, some (ringM n v r)))] [] (m = g + 1 ∧ x ∈ l) (.p (.b true)) [(c, (m, some (ringM n v r)))] := fun x c g m => ⟨fun h => by
      have := (holds_i (c := c) (g := g) (m := m) (n := n) (v := v) (r := r) (node := x) (part := p)).call ⟨h.1, hn8, hv16, by omega⟩
      rwa [← hL, decide_eq_true h.2] at this⟩
    rw [← hL] at hlen hnd hmem
    clear hL
    have d2 : decide ((l.length : Int) ≠ (r : Int)) = false := decide_eq_false fun k => k (by omega)
    repeat' (first
        | refine rnC ?_
        | refine rnSB ?_
        | refine rnG ?_
        | refine rnU ?_
        | ((fail_if_success (refine rnKn ?_)); refine rnP ?_ ?_ <;> (intro hq; try (have hq' := hq; simp only [hqs] at hq')))
        | refine rkC ?_
        | refine rkSB ?_
        | refine rkF ?_
        | refine rkU ?_
        | ((fail_if_success (refine rkKn ?_)); refine rkP ?_ ?_ <;> (intro hq; try (have hq' := hq; simp only [hqs] at hq')))
        | refine stp ?_
        | refine ifT ?_
        | refine ifF ?_
        | (refine ifQ ?_ ?_ <;> (try (intro hn)))
        | (refine ifB ?_ ?_ <;> (intro hq; try (have hq' := hq; simp only [hqs] at hq'))))
    refine aws_loopS [2, 8, 9, 38, 39, 40, 41, 42, 43, 44, 45, 46, 47, 48, 49, 50, 51, 52, 53, 54, 55, 56, 57, 58, 59, 60, 61, 62, 63, 64, 65, 66, 67, 68, 69, 70, 71, 72, 73, 74, 75, 76, 77, 78, 79, 80, 81] [15] (fun (i : Nat) => [(8, .p (.i i))]) (fun _ => [(15, (1, some (ringM n v r)))]) (fun i => i ≤ l.length) (fun i => l.length - i) 0 (Nat.zero_le _) (by exact knA) (by exact knA) ?_
    rintro i β γ hi
    by_cases hil : i < l.length
    · have d3 : decide ((i : Int) < (l.length : Int)) = true := decide_eq_true (by omega)
      have ei : (i : Int).toNat = i := Int.toNat_natCast i
      have hxl : l.getD (i : Int).toNat default ∈ l := by rw [ei, getD_at hil]; exact List.getElem_mem _
      have hxb := hmem _ hxl
      have d4 : decide (l.getD (i : Int).toNat default < 1) = false := decide_eq_false (by omega)
      have d5 : decide ((n : Int) < l.getD (i : Int).toNat default) = false := decide_eq_false (by omega)
      repeat' (first
          | refine rnC ?_
          | refine rnSB ?_
          | refine rnG ?_
          | refine rnU ?_
          | ((fail_if_success (refine rnKn ?_)); refine rnP ?_ ?_ <;> (intro hq; try (have hq' := hq; simp only [hqs] at hq')))
          | refine rkC ?_
          | refine rkSB ?_
          | refine rkF ?_
          | refine rkU ?_
          | ((fail_if_success (refine rkKn ?_)); refine rkP ?_ ?_ <;> (intro hq; try (have hq' := hq; simp only [hqs] at hq')))
          | refine stp ?_
          | refine ifT ?_
          | refine ifF ?_
          | (refine ifQ ?_ ?_ <;> (try (intro hn)))
          | (refine ifB ?_ ?_ <;> (intro hq; try (have hq' := hq; simp only [hqs] at hq'))))
      refine aws_draws [(21, 15)] mixed (by kernel_rfl) ?_
      repeat' (first
          | refine rk_nil ?_
          | refine rkC ?_
          | refine rkSB ?_
          | refine rkF ?_
          | refine rkU ?_
          | ((fail_if_success (refine rkKn ?_)); refine rkP ?_ ?_ <;> (intro hq; try (have hq' := hq; simp only [hqs] at hq'))))
      repeat' (first
          | refine rnC ?_
          | refine rnSB ?_
          | refine rnG ?_
          | refine rnU ?_
          | ((fail_if_success (refine rnKn ?_)); refine rnP ?_ ?_ <;> (intro hq; try (have hq' := hq; simp only [hqs] at hq')))
          | refine rkC ?_
          | refine rkSB ?_
          | refine rkF ?_
          | refine rkU ?_
          | ((fail_if_success (refine rkKn ?_)); refine rkP ?_ ?_ <;> (intro hq; try (have hq' := hq; simp only [hqs] at hq')))
          | refine stp ?_
          | refine ifT ?_
          | refine ifF ?_
          | (refine ifQ ?_ ?_ <;> (try (intro hn)))
          | (refine ifB ?_ ?_ <;> (intro hq; try (have hq' := hq; simp only [hqs] at hq'))))
      refine aws_loopS [2, 9, 68, 69, 70, 71, 72, 73, 74, 75, 76, 77, 78, 79, 80, 81] [] (fun (k : Nat) => [(9, .p (.i k))]) (fun _ => []) (fun k => k ≤ i) (fun k => i - k) 0 (Nat.zero_le _) (by exact knA) (by exact knA) ?_
      rintro k β γ hk
      by_cases hki : k < i
      · have d6 : decide ((k : Int) < (i : Int)) = true := decide_eq_true (by omega)
        have hne : l.getD (i : Int).toNat default ≠ l.getD (k : Int).toNat default := fun e => by
          rw [Int.toNat_natCast, Int.toNat_natCast, getD_at hil, getD_at (show k < l.length by omega)] at e
          have := (List.getElem_inj hnd).1 e
          omega
        have d7 : decide (l.getD (i : Int).toNat default = l.getD (k : Int).toNat default) = false := decide_eq_false hne
        repeat' (first
            | refine rnC ?_
            | refine rnSB ?_
            | refine rnG ?_
            | refine rnU ?_
            | ((fail_if_success (refine rnKn ?_)); refine rnP ?_ ?_ <;> (intro hq; try (have hq' := hq; simp only [hqs] at hq')))
            | refine rkC ?_
            | refine rkSB ?_
            | refine rkF ?_
            | refine rkU ?_
            | ((fail_if_success (refine rkKn ?_)); refine rkP ?_ ?_ <;> (intro hq; try (have hq' := hq; simp only [hqs] at hq')))
            | refine stp ?_
            | refine ifT ?_
            | refine ifF ?_
            | (refine ifQ ?_ ?_ <;> (try (intro hn)))
            | (refine ifB ?_ ?_ <;> (intro hq; try (have hq' := hq; simp only [hqs] at hq'))))
        refine aws_draws [] mixed (by kernel_rfl) ?_
        repeat' (first
            | refine rk_nil ?_
            | refine rkC ?_
            | refine rkSB ?_
            | refine rkF ?_
            | refine rkU ?_
            | ((fail_if_success (refine rkKn ?_)); refine rkP ?_ ?_ <;> (intro hq; try (have hq' := hq; simp only [hqs] at hq'))))
        as_aux_lemma =>
          repeat' (first
              | refine rnC ?_
              | refine rnSB ?_
              | refine rnG ?_
              | refine rnU ?_
              | ((fail_if_success (refine rnKn ?_)); refine rnP ?_ ?_ <;> (intro hq; try (have hq' := hq; simp only [hqs] at hq')))
              | refine rkC ?_
              | refine rkSB ?_
              | refine rkF ?_
              | refine rkU ?_
              | ((fail_if_success (refine rkKn ?_)); refine rkP ?_ ?_ <;> (intro hq; try (have hq' := hq; simp only [hqs] at hq')))
              | refine stp ?_
              | refine ifT ?_
              | refine ifF ?_
              | (refine ifQ ?_ ?_ <;> (try (intro hn)))
              | (refine ifB ?_ ?_ <;> (intro hq; try (have hq' := hq; simp only [hqs] at hq'))))
          exact ⟨k + 1, _, by omega, (by show k + 1 ≤ i; omega), .refl, by exact frA⟩
      · have d6 : decide ((k : Int) < (i : Int)) = false := decide_eq_false (by omega)
        as_aux_lemma =>
          repeat' (first
              | refine rnC ?_
              | refine rnSB ?_
              | refine rnG ?_
              | refine rnU ?_
              | ((fail_if_success (refine rnKn ?_)); refine rnP ?_ ?_ <;> (intro hq; try (have hq' := hq; simp only [hqs] at hq')))
              | refine rkC ?_
              | refine rkSB ?_
              | refine rkF ?_
              | refine rkU ?_
              | ((fail_if_success (refine rkKn ?_)); refine rkP ?_ ?_ <;> (intro hq; try (have hq' := hq; simp only [hqs] at hq')))
              | refine stp ?_
              | refine ifT ?_
              | refine ifF ?_
              | (refine ifQ ?_ ?_ <;> (try (intro hn)))
              | (refine ifB ?_ ?_ <;> (intro hq; try (have hq' := hq; simp only [hqs] at hq'))))
          exact ⟨i + 1, _, by omega, (by show i + 1 ≤ l.length; omega), .refl, by exact frA⟩
    · have d3 : decide ((i : Int) < (l.length : Int)) = false := decide_eq_false (by omega)
      as_aux_lemma =>
        repeat' (first
            | refine rnC ?_
            | refine rnSB ?_
            | refine rnG ?_
            | refine rnU ?_
            | ((fail_if_success (refine rnKn ?_)); refine rnP ?_ ?_ <;> (intro hq; try (have hq' := hq; simp only [hqs] at hq')))
            | refine rkC ?_
            | refine rkSB ?_
            | refine rkF ?_
            | refine rkU ?_
            | ((fail_if_success (refine rkKn ?_)); refine rkP ?_ ?_ <;> (intro hq; try (have hq' := hq; simp only [hqs] at hq')))
            | refine stp ?_
            | refine ifT ?_
            | refine ifF ?_
            | (refine ifQ ?_ ?_ <;> (try (intro hn)))
            | (refine ifB ?_ ?_ <;> (intro hq; try (have hq' := hq; simp only [hqs] at hq'))))
        exact ⟨p + 1, _, by omega, (by show p + 1 ≤ 8; omega), .refl, by exact frA⟩
  · have d1 : decide ((p : Int) < 8) = false := decide_eq_false (by omega)
    as_aux_lemma =>
      repeat' (first
          | refine rnC ?_
          | refine rnSB ?_
          | refine rnG ?_
          | refine rnU ?_
          | ((fail_if_success (refine rnKn ?_)); refine rnP ?_ ?_ <;> (intro hq; try (have hq' := hq; simp only [hqs] at hq')))
          | refine rkC ?_
          | refine rkSB ?_
          | refine rkF ?_
          | refine rkU ?_
          | ((fail_if_success (refine rkKn ?_)); refine rkP ?_ ?_ <;> (intro hq; try (have hq' := hq; simp only [hqs] at hq')))
          | refine stp ?_
          | refine ifT ?_
          | refine ifF ?_
          | (refine ifQ ?_ ?_ <;> (try (intro hn)))
          | (refine ifB ?_ ?_ <;> (intro hq; try (have hq' := hq; simp only [hqs] at hq'))))
      refine aws_sm [(1, .o (.ptr 1 0 0)), (3, .o (.ptr 15 0 0)), (5, .p (.i 0)), (10, .p (.i 1))] [(1, (1, some (.box 23 [.p (.i n), .p (.i v), .p (.i r)]))), (15, (1, some (ringM n v r)))] (by exact knA) (by exact knA) fun ν => ?_
      exact HX w0 F S0 M0 ν
theorem ringHolds_2 (w0 : World) (F S0 : Nat → Prop) (M0 : Mu) (n v r : Nat) (ν : Nat → Nat) (h : rRight n v r = true) : RH9.1 w0 F S0 M0 n v r ν := by
  refine (?_ : AWs _ _ _ _)
  obtain ⟨hn1, hn8, hv1, hv16, hr1, hrn⟩ := right_is h
  have hgb : ∀ k, gP n v r k ≤ 8 := fun k => partsTo_len _ _ _ _ _
  have hsb : ∀ k, k ≤ n → sm (gP n v r) k ≤ 64 := fun k hk => Nat.le_trans (sm_le hgb k) (by omega)
  refine aws_loopS [2, 5, 10, 11, 12, 82, 83, 84, 85, 86, 87, 88, 89, 90, 91, 92, 93, 94, 95, 96, 97, 98, 99, 100, 101, 102, 103, 104, 105, 106, 107, 108, 109, 110, 111, 112, 113, 114, 115, 116, 117, 118, 119, 120, 121, 122, 123, 124] [15] (fun (s : Nat) => [(10, .p (.i (s + 1))), (5, .p (.i (sm (gP n v r) s)))]) (fun _ => [(15, (1, some (ringM n v r)))]) (fun s => s ≤ n) (fun s => n - s) 0 (Nat.zero_le _) (by exact knA) (by exact knA) ?_
  rintro s β γ hs
  have hss := hsb s hs
  by_cases hsn : s < n
  · have d2 : decide ((s : Int) + 1 ≤ (n : Int)) = true := decide_eq_true (by omega)
    have hup := parts_up n v r ((s : Int) + 1) 8
    have hmem : ∀ x, x ∈ partsTo n v r ((s : Int) + 1) 8 → ((s : Int) + 1) ∈ lstF n v r x := fun x hx => (parts_mem hx).2.2
    have hll : (partsTo n v r ((s : Int) + 1) 8).length = gP n v r s := rfl
    have hl8 : (partsTo n v r ((s : Int) + 1) 8).length ≤ 8 := partsTo_len _ _ _ _ _
    obtain ⟨l, hL⟩ : ∃ l, l = partsTo n v r ((s : Int) + 1) 8 := ⟨_, rfl⟩
    haveI : ∀ c g m : Nat, OC Try.prog 18 [.o (.ptr c g 0), .p (.i ((s : Int) + 1))] [(c, (m, some (ringM n v r)))] [] (m = g + 1) (.p (.sl 1 (l.map iR) false)) [(c, (m, some (ringM n v r)))] := fun c g m => ⟨fun h => by rw [hL]; exact parts_i.call ⟨h, hn8, hv16, by omega⟩⟩
    rw [← hL] at hup hmem hll hl8
    clear hL
    haveI : ∀ (x : Int) (c g m : Nat), OC Try.prog 17 [.o (.ptr c g 0), .p (.i ((s : Int) + 1)), .p (.i x)] [(c, (m, some (ringM n v r)))] [] (m = g + 1 ∧ x ∈ l) (.p (.b true)) [(c, (m, some (ringM n v r)))] := fun x c g m => ⟨fun h => by
      have := (holds_i (c := c) (g := g) (m := m) (n := n) (v := v) (r := r) (node := (s : Int) + 1) (part := x)).call ⟨h.1, hn8, hv16, by omega⟩
      rwa [decide_eq_true (hmem x h.2)] at this⟩
    repeat' (first
        | refine rnC ?_
        | refine rnSB ?_
        | refine rnG ?_
        | refine rnU ?_
        | ((fail_if_success (refine rnKn ?_)); refine rnP ?_ ?_ <;> (intro hq; try (have hq' := hq; simp only [hqs] at hq')))
        | refine rkC ?_
        | refine rkSB ?_
        | refine rkF ?_
        | refine rkU ?_
        | ((fail_if_success (refine rkKn ?_)); refine rkP ?_ ?_ <;> (intro hq; try (have hq' := hq; simp only [hqs] at hq')))
        | refine stp ?_
        | refine ifT ?_
        | refine ifF ?_
        | (refine ifQ ?_ ?_ <;> (try (intro hn)))
        | (refine ifB ?_ ?_ <;> (intro hq; try (have hq' := hq; simp only [hqs] at hq'))))
    refine aws_loopS [2, 12, 91, 92, 93, 94, 95, 96, 97, 98, 99, 100, 101, 102, 103, 104, 105, 106, 107, 108, 109, 110, 111, 112, 113, 114, 115, 116, 117, 118, 119, 120] [15] (fun (i : Nat) => [(12, .p (.i i))]) (fun _ => [(15, (1, some (ringM n v r)))]) (fun i => i ≤ l.length) (fun i => l.length - i) 0 (Nat.zero_le _) (by exact knA) (by exact knA) ?_
    rintro i β γ hi
    by_cases hil : i < l.length
    · have d3 : decide ((i : Int) < (l.length : Int)) = true := decide_eq_true (by omega)
      have ei : (i : Int).toNat = i := Int.toNat_natCast i
      have hxl : l.getD (i : Int).toNat default ∈ l := by rw [ei, getD_at hil]; exact List.getElem_mem _
      by_cases hi0 : 0 < i
      · have d4 : decide (0 < (i : Int)) = true := decide_eq_true (by omega)
        have d5 : decide (l.getD (i : Int).toNat default ≤ l.getD ((i : Int) - 1).toNat default) = false := decide_eq_false fun q => by
          rw [ei, show ((i : Int) - 1).toNat = i - 1 by omega, getD_at hil, getD_at (show i - 1 < l.length by omega)] at q
          have := List.pairwise_iff_getElem.1 hup (i - 1) i (by omega) hil (by omega)
          omega
        repeat' (first
            | refine rnC ?_
            | refine rnSB ?_
            | refine rnG ?_
            | refine rnU ?_
            | ((fail_if_success (refine rnKn ?_)); refine rnP ?_ ?_ <;> (intro hq; try (have hq' := hq; simp only [hqs] at hq')))
            | refine rkC ?_
            | refine rkSB ?_
            | refine rkF ?_
            | refine rkU ?_
            | ((fail_if_success (refine rkKn ?_)); refine rkP ?_ ?_ <;> (intro hq; try (have hq' := hq; simp only [hqs] at hq')))
            | refine stp ?_
            | refine ifT ?_
            | refine ifF ?_
            | (refine ifQ ?_ ?_ <;> (try (intro hn)))
            | (refine ifB ?_ ?_ <;> (intro hq; try (have hq' := hq; simp only [hqs] at hq'))))
        refine aws_draws [(6, 15)] mixed (by kernel_rfl) ?_
        repeat' (first
            | refine rk_nil ?_
            | refine rkC ?_
            | refine rkSB ?_
            | refine rkF ?_
            | refine rkU ?_
            | ((fail_if_success (refine rkKn ?_)); refine rkP ?_ ?_ <;> (intro hq; try (have hq' := hq; simp only [hqs] at hq'))))
        as_aux_lemma =>
          repeat' (first
              | refine rnC ?_
              | refine rnSB ?_
              | refine rnG ?_
              | refine rnU ?_
              | ((fail_if_success (refine rnKn ?_)); refine rnP ?_ ?_ <;> (intro hq; try (have hq' := hq; simp only [hqs] at hq')))
              | refine rkC ?_
              | refine rkSB ?_
              | refine rkF ?_
              | refine rkU ?_
              | ((fail_if_success (refine rkKn ?_)); refine rkP ?_ ?_ <;> (intro hq; try (have hq' := hq; simp only [hqs] at hq')))
              | refine stp ?_
              | refine ifT ?_
              | refine ifF ?_
              | (refine ifQ ?_ ?_ <;> (try (intro hn)))
              | (refine ifB ?_ ?_ <;> (intro hq; try (have hq' := hq; simp only [hqs] at hq'))))
          exact ⟨i + 1, _, by omega, (by show i + 1 ≤ l.length; omega), .refl, by exact frA⟩
      · have d4 : decide (0 < (i : Int)) = false := decide_eq_false (by omega)
        repeat' (first
            | refine rnC ?_
            | refine rnSB ?_
            | refine rnG ?_
            | refine rnU ?_
            | ((fail_if_success (refine rnKn ?_)); refine rnP ?_ ?_ <;> (intro hq; try (have hq' := hq; simp only [hqs] at hq')))
            | refine rkC ?_
            | refine rkSB ?_
            | refine rkF ?_
            | refine rkU ?_
            | ((fail_if_success (refine rkKn ?_)); refine rkP ?_ ?_ <;> (intro hq; try (have hq' := hq; simp only [hqs] at hq')))
            | refine stp ?_
            | refine ifT ?_
            | refine ifF ?_
            | (refine ifQ ?_ ?_ <;> (try (intro hn)))
            | (refine ifB ?_ ?_ <;> (intro hq; try (have hq' := hq; simp only [hqs] at hq'))))
        refine aws_draws [(6, 15)] mixed (by kernel_rfl) ?_
        repeat' (first
            | refine rk_nil ?_
            | refine rkC ?_
            | refine rkSB ?_
            | refine rkF ?_
            | refine rkU ?_
            | ((fail_if_success (refine rkKn ?_)); refine rkP ?_ ?_ <;> (intro hq; try (have hq' := hq; simp only [hqs] at hq'))))
        as_aux_lemma =>
          repeat' (first
              | refine rnC ?_
              | refine rnSB ?_
              | refine rnG ?_
              | refine rnU ?_
              | ((fail_if_success (refine rnKn ?_)); refine rnP ?_ ?_ <;> (intro hq; try (have hq' := hq; simp only [hqs] at hq')))
              | refine rkC ?_
              | refine rkSB ?_
              | refine rkF ?_
              | refine rkU ?_
              | ((fail_if_success (refine rkKn ?_)); refine rkP ?_ ?_ <;> (intro hq; try (have hq' := hq; simp only [hqs] at hq')))
              | refine stp ?_
              | refine ifT ?_
              | refine ifF ?_
              | (refine ifQ ?_ ?_ <;> (try (intro hn)))
              | (refine ifB ?_ ?_ <;> (intro hq; try (have hq' := hq; simp only [hqs] at hq'))))
          exact ⟨i + 1, _, by omega, (by show i + 1 ≤ l.length; omega), .refl, by exact frA⟩
    · have d3 : decide ((i : Int) < (l.length : Int)) = false := decide_eq_false (by omega)
      have hnx : ((sm (gP n v r) (s + 1) : Nat) : Int) = (sm (gP n v r) s : Int) + (l.length : Int) := by rw [sm, hll]; omega
      as_aux_lemma =>
        repeat' (first
            | refine rnC ?_
            | refine rnSB ?_
            | refine rnG ?_
            | refine rnU ?_
            | ((fail_if_success (refine rnKn ?_)); refine rnP ?_ ?_ <;> (intro hq; try (have hq' := hq; simp only [hqs] at hq')))
            | refine rkC ?_
            | refine rkSB ?_
            | refine rkF ?_
            | refine rkU ?_
            | ((fail_if_success (refine rkKn ?_)); refine rkP ?_ ?_ <;> (intro hq; try (have hq' := hq; simp only [hqs] at hq')))
            | refine stp ?_
            | refine ifT ?_
            | refine ifF ?_
            | (refine ifQ ?_ ?_ <;> (try (intro hn)))
            | (refine ifB ?_ ?_ <;> (intro hq; try (have hq' := hq; simp only [hqs] at hq'))))
        refine ⟨s + 1, _, by omega, (by show s + 1 ≤ n; omega), .refl, ?_⟩
        try dsimp only
        rw [hnx]
        exact frA
  · have d2 : decide ((s : Int) + 1 ≤ (n : Int)) = false := decide_eq_false (by omega)
    obtain rfl : s = n := by omega
    rw [sm_parts h] at hss
    have d3 : decide (((sm (gP s v r) s : Nat) : Int) = 8 * (r : Int)) = true := decide_eq_true (by rw [sm_parts h]; omega)
    as_aux_lemma =>
      repeat' (first
          | refine rnC ?_
          | refine rnSB ?_
          | refine rnG ?_
          | refine rnU ?_
          | ((fail_if_success (refine rnKn ?_)); refine rnP ?_ ?_ <;> (intro hq; try (have hq' := hq; simp only [hqs] at hq')))
          | refine rkC ?_
          | refine rkSB ?_
          | refine rkF ?_
          | refine rkU ?_
          | ((fail_if_success (refine rkKn ?_)); refine rkP ?_ ?_ <;> (intro hq; try (have hq' := hq; simp only [hqs] at hq')))
          | refine stp ?_
          | refine aws_draws [] mixed (by kernel_rfl) ?_
          | refine ifT ?_
          | refine ifF ?_
          | (refine ifQ ?_ ?_ <;> (try (intro hn)))
          | (refine ifB ?_ ?_ <;> (intro hq; try (have hq' := hq; simp only [hqs] at hq'))))
      exact rt1 rfl rfl finS_p (rb d3.symm)
theorem ringHolds_good (n v r : Nat) (h : rRight n v r = true) : PCall Try.prog 4 [.a [.p (.i n), .p (.i v), .p (.i r)]] (.p (.b true)) :=
  RH9.2 n v r h fun w0 F S0 M0 ν => ringHolds_2 w0 F S0 M0 n v r ν h
end Go.Proofs.Ytebjmleheiefdaa.Rg
namespace Go.Proofs.Ytebjmleheiefdaa.Rg
open Go Go.RowKit Go.Aw Go.Aw.Cart Go.Proofs.Ytebjmleheiefdaa.Ca
set_option linter.unusedVariables false
set_option linter.unusedSimpArgs false
theorem ringHolds_a (c : Int × Int × Int) : PCall Try.prog 4 [argAV true [.i c.1, .i c.2.1, .i c.2.2]] (.p (.b true)) := by
  obtain ⟨c1, c2, c3⟩ := c
  cases h : rRight c1 c2 c3 with
  | false => exact ringHolds_bad c1 c2 c3 h
  | true =>
    obtain ⟨n, v, r, rfl, rfl, rfl⟩ := cfg_nat h
    exact ringHolds_good n v r h
end Go.Proofs.Ytebjmleheiefdaa.Rg
