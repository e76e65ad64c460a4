/- rings, the laws: RingGrows; rings: RingGrows' contract over what was read -/
import Derived.Test.YtebjmleheiefdaaQ6
namespace Go.Proofs.Ytebjmleheiefdaa.Rg
open Go Go.RowKit Go.Aw Go.Aw.Cart Go.Aw.Ord Go.Sort Go.Proofs.Ytebjmleheiefdaa.Ca
set_option linter.unusedVariables false
set_option linter.unusedSimpArgs false
set_option maxRecDepth 8000
set_option maxHeartbeats 4000000
open PB
/-- without the new node's points there are the points that there were -/
theorem pts_less (n v : Nat) : ((pts (n + 1) v).filter fun p => !decide (p.2 = ((n + 1 : Nat) : Int))) = pts n v := by
  have e : ((rawP v (n + 1)).filter fun p => !decide (p.2 = ((n + 1 : Nat) : Int))) = rawP v n := by
    rw [rawP, List.filter_append, List.filter_eq_self.2 (fun p hp => ?_), List.filter_eq_nil_iff.2 (fun p hp => ?_), List.append_nil]
    · rw [decide_eq_true (rowP_2 (n + 1) v p hp)]; simp
    · have := rawP_2 v n p hp
      rw [decide_eq_false (by omega)]; rfl
  refine up_uniq ltD_tot ?_ (List.Pairwise.filter _ (sortD_up _)) (sortD_up _)
  refine ((sortD_perm (rawP v (n + 1))).filter _).trans ?_
  rw [e]
  exact (sortD_perm _).symm
theorem lst_grows {n v r : Nat} {part : Int} : ((lstF (n + 1) v r part).filter fun x => !decide (x = ((n + 1 : Nat) : Int))) <+: lstF n v r part := by
  unfold lstF
  split
  · have := list_grows (L := pts (n + 1) v) (r := r) (base := 2305843009213693952 * part) (d := ((n + 1 : Nat) : Int))
    rwa [pts_less] at this
  · exact List.prefix_rfl
theorem step_pre {now was : List Int} {q : Int → Bool} (h : now.filter q <+: was) {i : Nat} (hi : i < now.length) (hq : q (now.getD i default) = true) : ((now.take i).filter q).length < was.length ∧ was.getD ((now.take i).filter q).length default = now.getD i default := by
  obtain ⟨t, ht⟩ := h
  have e : now = now.take i ++ now.getD i default :: now.drop (i + 1) := by
    rw [getD_at hi, List.getElem_cons_drop, List.take_append_drop]
  have e2 : was = (now.take i).filter q ++ (now.getD i default :: ((now.drop (i + 1)).filter q ++ t)) := by
    rw [← ht]
    conv => lhs; rw [e, List.filter_append, List.filter_cons_of_pos hq]
    rw [List.append_assoc, List.cons_append]
  rw [e2]
  refine ⟨by rw [List.length_append, List.length_cons]; omega, ?_⟩
  rw [List.getD_eq_getElem?_getD, List.getElem?_append_right (Nat.le_refl _), Nat.sub_self]
  rfl
theorem ringGrows_few (c1 c2 c3 : Int) (h : ¬ (1 ≤ c1 ∧ c1 < 8)) : PCall Try.prog 5 [.a [.p (.i c1), .p (.i c2), .p (.i c3)]] (.p (.b true)) := by
  refine pcall_of Try.func5 rfl (fun w0 F S0 M0 => ?_)
  by_cases h1 : c1 < 1
  · have d1 : decide (c1 < 1) = true := decide_eq_true h1
    as_aux_lemma =>
      repeat' (first
          | refine rnC ?_
          | refine rnSB ?_
          | refine rnG ?_
          | refine rnU ?_
          | ((fail_if_success (refine rnKn ?_)); refine rnP ?_ ?_ <;> (intro hq; try (have hq' := hq; simp only [hqs] at hq')))
          | refine rkC ?_
          | refine rkSB ?_
          | refine rkF ?_
          | refine rkU ?_
          | ((fail_if_success (refine rkKn ?_)); refine rkP ?_ ?_ <;> (intro hq; try (have hq' := hq; simp only [hqs] at hq')))
          | refine stp ?_
          | refine aws_draws [] mixed (by kernel_rfl) ?_
          | refine ifT ?_
          | refine ifF ?_
          | (refine ifQ ?_ ?_ <;> (try (intro hn)))
          | (refine ifB ?_ ?_ <;> (intro hq; try (have hq' := hq; simp only [hqs] at hq'))))
      exact rt1 rfl rfl finS_p rfl
  · have d1 : decide (c1 < 1) = false := decide_eq_false h1
    have d2 : decide (8 ≤ c1) = true := decide_eq_true (by omega)
    as_aux_lemma =>
      repeat' (first
          | refine rnC ?_
          | refine rnSB ?_
          | refine rnG ?_
          | refine rnU ?_
          | ((fail_if_success (refine rnKn ?_)); refine rnP ?_ ?_ <;> (intro hq; try (have hq' := hq; simp only [hqs] at hq')))
          | refine rkC ?_
          | refine rkSB ?_
          | refine rkF ?_
          | refine rkU ?_
          | ((fail_if_success (refine rkKn ?_)); refine rkP ?_ ?_ <;> (intro hq; try (have hq' := hq; simp only [hqs] at hq')))
          | refine stp ?_
          | refine aws_draws [] mixed (by kernel_rfl) ?_
          | refine ifT ?_
          | refine ifF ?_
          | (refine ifQ ?_ ?_ <;> (try (intro hn)))
          | (refine ifB ?_ ?_ <;> (intro hq; try (have hq' := hq; simp only [hqs] at hq'))))
      exact rt1 rfl rfl finS_p rfl
theorem ringGrows_bad (c1 c2 c3 : Int) (h1 : 1 ≤ c1 ∧ c1 < 8) (h : rRight c1 c2 c3 = false) : PCall Try.prog 5 [.a [.p (.i c1), .p (.i c2), .p (.i c3)]] (.p (.b true)) := by
  refine pcall_of Try.func5 rfl (fun w0 F S0 M0 => ?_)
  have d1 : decide (c1 < 1) = false := decide_eq_false (by omega)
  have d2 : decide (8 ≤ c1) = false := decide_eq_false (by omega)
  haveI : PC Try.prog 6 [.a [.p (.i c1), .p (.i c2), .p (.i c3)]] True (.tup [.one (.p (.v (.pointer none))), .one (.p (.i 1))]) := ⟨fun _ => newBad_w c1 c2 c3 h⟩
  haveI : PC Try.prog 7 [.a [.p (.i c1), .p (.i c2), .p (.i c3)]] True (.p (.b false)) := ⟨fun _ => by have := ringRight_w c1 c2 c3; rwa [h] at this⟩
  cases h2 : rRight (c1 + 1) c2 c3 with
  | false =>
    haveI : PC Try.prog 6 [.a [.p (.i (c1 + 1)), .p (.i c2), .p (.i c3)]] True (.tup [.one (.p (.v (.pointer none))), .one (.p (.i 1))]) := ⟨fun _ => newBad_w (c1 + 1) c2 c3 h2⟩
    as_aux_lemma =>
      repeat' (first
          | refine rnC ?_
          | refine rnSB ?_
          | refine rnG ?_
          | refine rnU ?_
          | ((fail_if_success (refine rnKn ?_)); refine rnP ?_ ?_ <;> (intro hq; try (have hq' := hq; simp only [hqs] at hq')))
          | refine rkC ?_
          | refine rkSB ?_
          | refine rkF ?_
          | refine rkU ?_
          | ((fail_if_success (refine rkKn ?_)); refine rkP ?_ ?_ <;> (intro hq; try (have hq' := hq; simp only [hqs] at hq')))
          | refine stp ?_
          | refine aws_draws [] mixed (by kernel_rfl) ?_
          | refine ifT ?_
          | refine ifF ?_
          | (refine ifQ ?_ ?_ <;> (try (intro hn)))
          | (refine ifB ?_ ?_ <;> (intro hq; try (have hq' := hq; simp only [hqs] at hq'))))
      exact rt1 rfl rfl finS_p (rb rfl)
  | true =>
    have hh : 1 ≤ c2 ∧ 1 ≤ c3 := by
      unfold rRight at h2
      have := of_decide_eq_true h2
      omega
    obtain ⟨v, rfl⟩ : ∃ v : Nat, c2 = v := ⟨c2.toNat, by omega⟩
    obtain ⟨r, rfl⟩ : ∃ r : Nat, c3 = r := ⟨c3.toNat, by omega⟩
    obtain ⟨n, rfl⟩ : ∃ n : Nat, c1 = n := ⟨c1.toNat, by omega⟩
    haveI : ∀ c k : Nat, OC Try.prog 6 [.a [.p (.i ((n : Int) + 1)), .p (.i v), .p (.i r)]] [] [(c, k)] True (.tup [.one (.ptr c k 0), .one (.p (.i 0))]) [(c, (k + 1, some (ringM (n + 1) v r)))] := fun c k => ⟨fun _ => newM_i.call h2⟩
    as_aux_lemma =>
      repeat' (first
          | refine rnC ?_
          | refine rnSB ?_
          | refine rnG ?_
          | refine rnU ?_
          | ((fail_if_success (refine rnKn ?_)); refine rnP ?_ ?_ <;> (intro hq; try (have hq' := hq; simp only [hqs] at hq')))
          | refine rkC ?_
          | refine rkSB ?_
          | refine rkF ?_
          | refine rkU ?_
          | ((fail_if_success (refine rkKn ?_)); refine rkP ?_ ?_ <;> (intro hq; try (have hq' := hq; simp only [hqs] at hq')))
          | refine stp ?_
          | refine aws_draws [] mixed (by kernel_rfl) ?_
          | refine ifT ?_
          | refine ifF ?_
          | (refine ifQ ?_ ?_ <;> (try (intro hn)))
          | (refine ifB ?_ ?_ <;> (intro hq; try (have hq' := hq; simp only [hqs] at hq'))))
      exact rt1 rfl rfl finS_p (rb rfl)
theorem ringGrows_good (n v r : Nat) (h : rRight n v r = true) (h8 : n < 8) : PCall Try.prog 5 [.a [.p (.i n), .p (.i v), .p (.i r)]] (.p (.b true)) := by
  refine pcall_of Try.func5 rfl (fun w0 F S0 M0 => ?_)
  obtain ⟨hn1, hn8, hv1, hv16, hr1, hrn⟩ := right_is h
  have d1 : decide ((n : Int) < 1) = false := decide_eq_false (by omega)
  have d2 : decide (8 ≤ (n : Int)) = false := decide_eq_false (by omega)
  have h2 : rRight ((n + 1 : Nat) : Int) v r = true := decide_eq_true (by omega)
  haveI : ∀ c k : Nat, OC Try.prog 6 [.a [.p (.i n), .p (.i v), .p (.i r)]] [] [(c, k)] True (.tup [.one (.ptr c k 0), .one (.p (.i 0))]) [(c, (k + 1, some (ringM n v r)))] := fun c k => ⟨fun _ => newM_i.call h⟩
  haveI : ∀ c k : Nat, OC Try.prog 6 [.a [.p (.i ((n : Int) + 1)), .p (.i v), .p (.i r)]] [] [(c, k)] True (.tup [.one (.ptr c k 0), .one (.p (.i 0))]) [(c, (k + 1, some (ringM (n + 1) v r)))] := fun c k => ⟨fun _ => newM_i.call h2⟩
  repeat' (first
      | refine rnC ?_
      | refine rnSB ?_
      | refine rnG ?_
      | refine rnU ?_
      | ((fail_if_success (refine rnKn ?_)); refine rnP ?_ ?_ <;> (intro hq; try (have hq' := hq; simp only [hqs] at hq')))
      | refine rkC ?_
      | refine rkSB ?_
      | refine rkF ?_
      | refine rkU ?_
      | ((fail_if_success (refine rkKn ?_)); refine rkP ?_ ?_ <;> (intro hq; try (have hq' := hq; simp only [hqs] at hq')))
      | refine stp ?_
      | refine ifT ?_
      | refine ifF ?_
      | (refine ifQ ?_ ?_ <;> (try (intro hn)))
      | (refine ifB ?_ ?_ <;> (intro hq; try (have hq' := hq; simp only [hqs] at hq'))))
  refine aws_loopS [2, 8, 9, 10, 11, 12, 49, 50, 51, 52, 53, 54, 55, 56, 57, 58, 59, 60, 61, 62, 63, 64, 65, 66, 67, 68, 69, 70, 71, 72, 73, 74, 75, 76, 77, 78, 79, 80, 81, 82, 83, 84, 85, 86, 87, 88] [29, 34] (fun (p : Nat) => [(8, .p (.i p))]) (fun _ => [(29, (1, some (ringM n v r))), (34, (1, some (ringM (n + 1) v r)))]) (fun p => p ≤ 8) (fun p => 8 - p) 0 (Nat.zero_le _) (by exact knA) (by exact knA) ?_
  rintro p β γ hp
  by_cases hp8 : p < 8
  · have d3 : decide ((p : Int) < 8) = true := decide_eq_true (by omega)
    have hpre := lst_grows (n := n) (v := v) (r := r) (part := p)
    have hl1 : (lstF n v r p).length ≤ 8 := Nat.le_trans (lstF_len _ _ _ _) (by omega)
    have hl2 : (lstF (n + 1) v r p).length ≤ 8 := Nat.le_trans (lstF_len _ _ _ _) (by omega)
    obtain ⟨was, hW⟩ : ∃ l, l = lstF n v r p := ⟨_, rfl⟩
    obtain ⟨now, hN⟩ : ∃ l, l = lstF (n + 1) v r p := ⟨_, rfl⟩
    haveI : ∀ c g m : Nat, OC Try.prog 16 [.o (.ptr c g 0), .p (.i p)] [(c, (m, some (ringM n v r)))] [] (m = g + 1) (.p (.sl 1 (was.map iR) false)) [(c, (m, some (ringM n v r)))] := fun c g m => ⟨fun h => by rw [hW]; exact list_i.call ⟨h, hn8, hv16, by omega⟩⟩
    haveI : ∀ c g m : Nat, OC Try.prog 16 [.o (.ptr c g 0), .p (.i p)] [(c, (m, some (ringM (n + 1) v r)))] [] (m = g + 1) (.p (.sl 1 (now.map iR) false)) [(c, (m, some (ringM (n + 1) v r)))] := fun c g m => ⟨fun h => by rw [hN]; exact list_i.call ⟨h, by omega, hv16, by omega⟩⟩
    rw [← hW, ← hN] at hpre
    rw [← hW] at hl1
    rw [← hN] at hl2
    clear hW hN
    repeat' (first
        | refine rnC ?_
        | refine rnSB ?_
        | refine rnG ?_
        | refine rnU ?_
        | ((fail_if_success (refine rnKn ?_)); refine rnP ?_ ?_ <;> (intro hq; try (have hq' := hq; simp only [hqs] at hq')))
        | refine rkC ?_
        | refine rkSB ?_
        | refine rkF ?_
        | refine rkU ?_
        | ((fail_if_success (refine rkKn ?_)); refine rkP ?_ ?_ <;> (intro hq; try (have hq' := hq; simp only [hqs] at hq')))
        | refine stp ?_
        | refine ifT ?_
        | refine ifF ?_
        | (refine ifQ ?_ ?_ <;> (try (intro hn)))
        | (refine ifB ?_ ?_ <;> (intro hq; try (have hq' := hq; simp only [hqs] at hq'))))
    refine aws_loopS [2, 11, 12, 59, 60, 61, 62, 63, 64, 65, 66, 67, 68, 69, 70, 71, 72, 73, 74, 75, 76, 77, 78, 79, 80, 81, 82, 83, 84, 85, 86, 87, 88] [] (fun (i : Nat) => [(12, .p (.i i)), (11, .p (.i ((now.take i).filter fun x => !decide (x = ((n + 1 : Nat) : Int))).length))]) (fun _ => []) (fun i => i ≤ now.length) (fun i => now.length - i) 0 (Nat.zero_le _) (by exact knA) (by exact knA) ?_
    rintro i β γ hi
    by_cases hil : i < now.length
    · have d4 : decide ((i : Int) < (now.length : Int)) = true := decide_eq_true (by omega)
      have ei : (i : Int).toNat = i := Int.toNat_natCast i
      have htk := congrArg (List.filter fun x => !decide (x = ((n + 1 : Nat) : Int))) (take_get' hil)
      rw [List.filter_append] at htk
      by_cases hx : now.getD (i : Int).toNat default = (n : Int) + 1
      · have d5 : decide (now.getD (i : Int).toNat default = (n : Int) + 1) = true := decide_eq_true hx
        rw [ei] at hx
        have hc0 : List.filter (fun x => !decide (x = ((n + 1 : Nat) : Int))) [now.getD i default] = [] := List.filter_eq_nil_iff.2 (fun x hq => by rw [List.mem_singleton.1 hq, decide_eq_true (show now.getD i default = ((n + 1 : Nat) : Int) by omega)]; simp)
        rw [hc0, List.append_nil] at htk
        repeat' (first
            | refine rnC ?_
            | refine rnSB ?_
            | refine rnG ?_
            | refine rnU ?_
            | ((fail_if_success (refine rnKn ?_)); refine rnP ?_ ?_ <;> (intro hq; try (have hq' := hq; simp only [hqs] at hq')))
            | refine rkC ?_
            | refine rkSB ?_
            | refine rkF ?_
            | refine rkU ?_
            | ((fail_if_success (refine rkKn ?_)); refine rkP ?_ ?_ <;> (intro hq; try (have hq' := hq; simp only [hqs] at hq')))
            | refine stp ?_
            | refine ifT ?_
            | refine ifF ?_
            | (refine ifQ ?_ ?_ <;> (try (intro hn)))
            | (refine ifB ?_ ?_ <;> (intro hq; try (have hq' := hq; simp only [hqs] at hq'))))
        refine aws_draws [] mixed (by kernel_rfl) ?_
        repeat' (first
            | refine rk_nil ?_
            | refine rkC ?_
            | refine rkSB ?_
            | refine rkF ?_
            | refine rkU ?_
            | ((fail_if_success (refine rkKn ?_)); refine rkP ?_ ?_ <;> (intro hq; try (have hq' := hq; simp only [hqs] at hq'))))
        as_aux_lemma =>
          repeat' (first
              | refine rnC ?_
              | refine rnSB ?_
              | refine rnG ?_
              | refine rnU ?_
              | ((fail_if_success (refine rnKn ?_)); refine rnP ?_ ?_ <;> (intro hq; try (have hq' := hq; simp only [hqs] at hq')))
              | refine rkC ?_
              | refine rkSB ?_
              | refine rkF ?_
              | refine rkU ?_
              | ((fail_if_success (refine rkKn ?_)); refine rkP ?_ ?_ <;> (intro hq; try (have hq' := hq; simp only [hqs] at hq')))
              | refine stp ?_
              | refine ifT ?_
              | refine ifF ?_
              | (refine ifQ ?_ ?_ <;> (try (intro hn)))
              | (refine ifB ?_ ?_ <;> (intro hq; try (have hq' := hq; simp only [hqs] at hq'))))
          refine ⟨i + 1, _, by omega, (by show i + 1 ≤ now.length; omega), .refl, ?_⟩
          try dsimp only
          rw [htk]
          exact frA
      · have d5 : decide (now.getD (i : Int).toNat default = (n : Int) + 1) = false := decide_eq_false hx
        rw [ei] at hx
        have hqt : (!decide (now.getD i default = ((n + 1 : Nat) : Int))) = true := by rw [decide_eq_false (show ¬ now.getD i default = ((n + 1 : Nat) : Int) by omega)]; rfl
        obtain ⟨k1, k2⟩ := step_pre hpre hil hqt
        have hc1 : List.filter (fun x => !decide (x = ((n + 1 : Nat) : Int))) [now.getD i default] = [now.getD i default] := List.filter_eq_self.2 (fun x hq => by rw [List.mem_singleton.1 hq]; exact hqt)
        rw [hc1] at htk
        obtain ⟨m, hm⟩ : ∃ m, m = ((now.take i).filter fun x => !decide (x = ((n + 1 : Nat) : Int))).length := ⟨_, rfl⟩
        have hnx : ((now.take (i + 1)).filter fun x => !decide (x = ((n + 1 : Nat) : Int))).length = m + 1 := by rw [htk, List.length_append, ← hm]; rfl
        rw [← hm] at k1 k2
        rw [← hm]
        have d6 : decide ((was.length : Int) ≤ (m : Int)) = false := decide_eq_false (by omega)
        have d7 : decide (was.getD (m : Int).toNat default ≠ now.getD (i : Int).toNat default) = false := decide_eq_false fun q => q (by rw [Int.toNat_natCast, Int.toNat_natCast]; exact k2)
        repeat' (first
            | refine rnC ?_
            | refine rnSB ?_
            | refine rnG ?_
            | refine rnU ?_
            | ((fail_if_success (refine rnKn ?_)); refine rnP ?_ ?_ <;> (intro hq; try (have hq' := hq; simp only [hqs] at hq')))
            | refine rkC ?_
            | refine rkSB ?_
            | refine rkF ?_
            | refine rkU ?_
            | ((fail_if_success (refine rkKn ?_)); refine rkP ?_ ?_ <;> (intro hq; try (have hq' := hq; simp only [hqs] at hq')))
            | refine stp ?_
            | refine ifT ?_
            | refine ifF ?_
            | (refine ifQ ?_ ?_ <;> (try (intro hn)))
            | (refine ifB ?_ ?_ <;> (intro hq; try (have hq' := hq; simp only [hqs] at hq'))))
        refine aws_draws [] mixed (by kernel_rfl) ?_
        repeat' (first
            | refine rk_nil ?_
            | refine rkC ?_
            | refine rkSB ?_
            | refine rkF ?_
            | refine rkU ?_
            | ((fail_if_success (refine rkKn ?_)); refine rkP ?_ ?_ <;> (intro hq; try (have hq' := hq; simp only [hqs] at hq'))))
        repeat' (first
            | refine rnC ?_
            | refine rnSB ?_
            | refine rnG ?_
            | refine rnU ?_
            | ((fail_if_success (refine rnKn ?_)); refine rnP ?_ ?_ <;> (intro hq; try (have hq' := hq; simp only [hqs] at hq')))
            | refine rkC ?_
            | refine rkSB ?_
            | refine rkF ?_
            | refine rkU ?_
            | ((fail_if_success (refine rkKn ?_)); refine rkP ?_ ?_ <;> (intro hq; try (have hq' := hq; simp only [hqs] at hq')))
            | refine stp ?_
            | refine ifT ?_
            | refine ifF ?_
            | (refine ifQ ?_ ?_ <;> (try (intro hn)))
            | (refine ifB ?_ ?_ <;> (intro hq; try (have hq' := hq; simp only [hqs] at hq'))))
        refine aws_draws [] mixed (by kernel_rfl) ?_
        repeat' (first
            | refine rk_nil ?_
            | refine rkC ?_
            | refine rkSB ?_
            | refine rkF ?_
            | refine rkU ?_
            | ((fail_if_success (refine rkKn ?_)); refine rkP ?_ ?_ <;> (intro hq; try (have hq' := hq; simp only [hqs] at hq'))))
        as_aux_lemma =>
          repeat' (first
              | refine rnC ?_
              | refine rnSB ?_
              | refine rnG ?_
              | refine rnU ?_
              | ((fail_if_success (refine rnKn ?_)); refine rnP ?_ ?_ <;> (intro hq; try (have hq' := hq; simp only [hqs] at hq')))
              | refine rkC ?_
              | refine rkSB ?_
              | refine rkF ?_
              | refine rkU ?_
              | ((fail_if_success (refine rkKn ?_)); refine rkP ?_ ?_ <;> (intro hq; try (have hq' := hq; simp only [hqs] at hq')))
              | refine stp ?_
              | refine ifT ?_
              | refine ifF ?_
              | (refine ifQ ?_ ?_ <;> (try (intro hn)))
              | (refine ifB ?_ ?_ <;> (intro hq; try (have hq' := hq; simp only [hqs] at hq'))))
          refine ⟨i + 1, _, by omega, (by show i + 1 ≤ now.length; omega), .refl, ?_⟩
          try dsimp only
          rw [hnx]
          exact frA
    · have d4 : decide ((i : Int) < (now.length : Int)) = false := decide_eq_false (by omega)
      as_aux_lemma =>
        repeat' (first
            | refine rnC ?_
            | refine rnSB ?_
            | refine rnG ?_
            | refine rnU ?_
            | ((fail_if_success (refine rnKn ?_)); refine rnP ?_ ?_ <;> (intro hq; try (have hq' := hq; simp only [hqs] at hq')))
            | refine rkC ?_
            | refine rkSB ?_
            | refine rkF ?_
            | refine rkU ?_
            | ((fail_if_success (refine rkKn ?_)); refine rkP ?_ ?_ <;> (intro hq; try (have hq' := hq; simp only [hqs] at hq')))
            | refine stp ?_
            | refine ifT ?_
            | refine ifF ?_
            | (refine ifQ ?_ ?_ <;> (try (intro hn)))
            | (refine ifB ?_ ?_ <;> (intro hq; try (have hq' := hq; simp only [hqs] at hq'))))
        exact ⟨p + 1, _, by omega, (by show p + 1 ≤ 8; omega), .refl, by exact frA⟩
  · have d3 : decide ((p : Int) < 8) = false := decide_eq_false (by omega)
    as_aux_lemma =>
      repeat' (first
          | refine rnC ?_
          | refine rnSB ?_
          | refine rnG ?_
          | refine rnU ?_
          | ((fail_if_success (refine rnKn ?_)); refine rnP ?_ ?_ <;> (intro hq; try (have hq' := hq; simp only [hqs] at hq')))
          | refine rkC ?_
          | refine rkSB ?_
          | refine rkF ?_
          | refine rkU ?_
          | ((fail_if_success (refine rkKn ?_)); refine rkP ?_ ?_ <;> (intro hq; try (have hq' := hq; simp only [hqs] at hq')))
          | refine stp ?_
          | refine aws_draws [] mixed (by kernel_rfl) ?_
          | refine ifT ?_
          | refine ifF ?_
          | (refine ifQ ?_ ?_ <;> (try (intro hn)))
          | (refine ifB ?_ ?_ <;> (intro hq; try (have hq' := hq; simp only [hqs] at hq'))))
      exact rt1 rfl rfl finS_p rfl
end Go.Proofs.Ytebjmleheiefdaa.Rg
namespace Go.Proofs.Ytebjmleheiefdaa.Rg
open Go Go.RowKit Go.Aw Go.Aw.Cart Go.Proofs.Ytebjmleheiefdaa.Ca
set_option linter.unusedVariables false
set_option linter.unusedSimpArgs false
theorem ringGrows_a (c : Int × Int × Int) : PCall Try.prog 5 [argAV true [.i c.1, .i c.2.1, .i c.2.2]] (.p (.b true)) := by
  obtain ⟨c1, c2, c3⟩ := c
  by_cases h8 : 1 ≤ c1 ∧ c1 < 8
  · cases h : rRight c1 c2 c3 with
    | false => exact ringGrows_bad c1 c2 c3 h8 h
    | true =>
      obtain ⟨n, v, r, rfl, rfl, rfl⟩ := cfg_nat h
      exact ringGrows_good n v r h (by omega)
  · exact ringGrows_few c1 c2 c3 h8
end Go.Proofs.Ytebjmleheiefdaa.Rg
