/- rings: the least point of a part; rings: the reference's list of a part; rings: a ring's points, owners, and lists -/
import Derived.Test.YtebjmleheiefdaaQ1
import Derived.Test.YtebjmleheiefdaaQ3
namespace Go.Proofs.Ytebjmleheiefdaa.Rg
open Go Go.RowKit Go.Aw Go.Aw.Cart Go.Aw.Ord Go.Sort Go.Proofs.Ytebjmleheiefdaa.Ca
set_option linter.unusedVariables false
set_option linter.unusedSimpArgs false
set_option maxRecDepth 8000
set_option maxHeartbeats 4000000
namespace W4
theorem lopC {C : Ctx} {o : Oper} {σ : St} {e : Eff} {ro : Nat → Bool} (h : LOp C o σ e ro := by
    first
      | exact lop_wshl' rfl rfl rfl rfl (by decide) (by decide) rfl rfl
      | exact lopQ
      | fail) : LOp C o σ e ro := h
section steps
variable {C : Ctx} {ops : Array Oper} {o : Oper} {rest : List Oper} {K : St → Prop} {σ : St} {e : Eff} {ro : Nat → Bool} {W : List (Nat × Nat)} {i : Nat}
theorem rnC {d : Nat} (hk : RunN C ops rest K (e.app (some d) σ)) (hg : Guard ops σ o true := by first | exact gd_n rfl rfl | exact gd_t rfl rfl rfl rfl | exact gd_t rfl rfl rfl (by assumption)) (hd : o.dst = some d := by rfl) (h : LOp C o σ e ro := by exact lopC) : RunN C ops (o :: rest) K σ := rn_any hg hd h hk
theorem rkC {d : Nat} (hk : RunK C ops W (i + 1) rest K (e.app (some d) σ)) (hg : Guard ops σ o true := by first | exact gd_n rfl rfl | exact gd_t rfl rfl rfl rfl | exact gd_t rfl rfl rfl (by assumption)) (hd' : o.dst = some d := by rfl) (hd : dOk C o.dst = true := by rfl) (h : LOp C o σ e ro := by exact lopC)
    (hro : ∀ x, ro x = true → okObj ops W i x = true := by first | exact fun _ => ro_none | exact ro_one rfl | exact ro_one (by kernel_rfl) | exact ro_kIn (by decide)) (hob : ∀ p ∈ e.obj, (i, p.1) ∈ W := by first | exact ob_none | exact ob_one (by decide) | decide) : RunK C ops W i (o :: rest) K σ := rk_wr hg hd' hd h hro hob hk
end steps
end W4
open W4
theorem base_w (p : Int) : PCall Try.prog 23 [.p (.i p)] (.tup [.one (.p (.k .u64 (if 0 ≤ p ∧ p < 8 then 2305843009213693952 * p else 0))), .one (.p (.i (if 0 ≤ p ∧ p < 8 then 0 else 1)))]) := by
  refine pcall_of Try.func23 rfl (fun w0 F S0 M0 => ?_)
  by_cases h0 : p < 0
  · have d1 : decide (p < 0) = true := decide_eq_true h0
    rw [if_neg (by omega), if_neg (by omega)]
    as_aux_lemma =>
      repeat' (first
          | refine rnC ?_
          | refine rnSB ?_
          | refine rnG ?_
          | refine rnU ?_
          | ((fail_if_success (refine rnKn ?_)); refine rnP ?_ ?_ <;> (intro hq; try (have hq' := hq; simp only [hqs] at hq')))
          | refine rkC ?_
          | refine rkSB ?_
          | refine rkF ?_
          | refine rkU ?_
          | ((fail_if_success (refine rkKn ?_)); refine rkP ?_ ?_ <;> (intro hq; try (have hq' := hq; simp only [hqs] at hq')))
          | refine stp ?_
          | refine ifT ?_
          | refine ifF ?_
          | (refine ifQ ?_ ?_ <;> (try (intro hn)))
          | (refine ifB ?_ ?_ <;> (intro hq; try (have hq' := hq; simp only [hqs] at hq'))))
      exact rt2 rfl rfl finS_p rfl finS_p rfl
  · have d1 : decide (p < 0) = false := decide_eq_false h0
    by_cases h8 : 8 ≤ p
    · have d2 : decide (8 ≤ p) = true := decide_eq_true h8
      rw [if_neg (by omega), if_neg (by omega)]
      as_aux_lemma =>
        repeat' (first
            | refine rnC ?_
            | refine rnSB ?_
            | refine rnG ?_
            | refine rnU ?_
            | ((fail_if_success (refine rnKn ?_)); refine rnP ?_ ?_ <;> (intro hq; try (have hq' := hq; simp only [hqs] at hq')))
            | refine rkC ?_
            | refine rkSB ?_
            | refine rkF ?_
            | refine rkU ?_
            | ((fail_if_success (refine rkKn ?_)); refine rkP ?_ ?_ <;> (intro hq; try (have hq' := hq; simp only [hqs] at hq')))
            | refine stp ?_
            | refine ifT ?_
            | refine ifF ?_
            | (refine ifQ ?_ ?_ <;> (try (intro hn)))
            | (refine ifB ?_ ?_ <;> (intro hq; try (have hq' := hq; simp only [hqs] at hq'))))
        exact rt2 rfl rfl finS_p rfl finS_p rfl
    · have d2 : decide (8 ≤ p) = false := decide_eq_false h8
      rw [if_pos (by omega), if_pos (by omega)]
      obtain ⟨q, rfl⟩ : ∃ q : Nat, p = q := ⟨p.toNat, by omega⟩
      have e : (2305843009213693952 : Int) * (q : Int) = (((q * 2 ^ (61 : Int).toNat) % md .u64 : Nat) : Int) := by
        have h1 : q * 2 ^ (61 : Int).toNat = q * 2305843009213693952 := rfl
        have h2 : md .u64 = 18446744073709551616 := rfl
        rw [h1, h2]; omega
      rw [e]
      as_aux_lemma =>
        repeat' (first
            | refine rnC ?_
            | refine rnSB ?_
            | refine rnG ?_
            | refine rnU ?_
            | ((fail_if_success (refine rnKn ?_)); refine rnP ?_ ?_ <;> (intro hq; try (have hq' := hq; simp only [hqs] at hq')))
            | refine rkC ?_
            | refine rkSB ?_
            | refine rkF ?_
            | refine rkU ?_
            | ((fail_if_success (refine rkKn ?_)); refine rkP ?_ ?_ <;> (intro hq; try (have hq' := hq; simp only [hqs] at hq')))
            | refine stp ?_
            | refine ifT ?_
            | refine ifF ?_
            | (refine ifQ ?_ ?_ <;> (try (intro hn)))
            | (refine ifB ?_ ?_ <;> (intro hq; try (have hq' := hq; simp only [hqs] at hq'))))
        exact rt2 rfl rfl finS_p rfl finS_p rfl
instance base_i {p : Int} : PC Try.prog 23 [.p (.i p)] True (.tup [.one (.p (.k .u64 (if 0 ≤ p ∧ p < 8 then 2305843009213693952 * p else 0))), .one (.p (.i (if 0 ≤ p ∧ p < 8 then 0 else 1)))]) := ⟨fun _ => base_w p⟩
end Go.Proofs.Ytebjmleheiefdaa.Rg
namespace Go.Proofs.Ytebjmleheiefdaa.Rg
open Go Go.RowKit Go.Aw Go.Aw.Cart Go.Aw.Ord Go.Sort Go.Proofs.Ytebjmleheiefdaa.Ca
set_option linter.unusedVariables false
set_option linter.unusedSimpArgs false
set_option maxRecDepth 8000
set_option maxHeartbeats 4000000
open W2
theorem take_step {r : Nat} (V : List Int) (y : Int) : (dl (V ++ [y])).take r = if ((dl V).take r).length < r ∧ y ∉ (dl V).take r then (dl V).take r ++ [y] else (dl V).take r := by
  rw [dl_snoc]
  by_cases hl : ((dl V).take r).length < r
  · have hlen := hl
    rw [List.length_take] at hlen
    by_cases hx : y ∈ dl V
    · rw [if_pos hx, if_neg (show ¬ (((dl V).take r).length < r ∧ y ∉ (dl V).take r) from fun q => q.2 ((take_in hl).2 hx))]
    · have e1 : (dl V).take r = dl V := List.take_of_length_le (by omega)
      have e2 : (dl V ++ [y]).take r = dl V ++ [y] := List.take_of_length_le (by rw [List.length_append, List.length_singleton]; omega)
      rw [if_neg hx, if_pos (show ((dl V).take r).length < r ∧ y ∉ (dl V).take r from ⟨hl, fun q => hx ((take_in hl).1 q)⟩), e1, e2]
  · rw [if_neg (show ¬ (((dl V).take r).length < r ∧ y ∉ (dl V).take r) from fun q => hl q.1)]
    rw [List.length_take] at hl
    split
    · rfl
    · exact (List.take_append_of_le_length (l₁ := dl V) (by omega))
def geF (B : Int) (p : Dot) : Bool := decide (B ≤ p.1)
theorem snocG {B : Int} {L : List Dot} {i : Nat} (hi : i < L.length) : ((L.take (i + 1)).filter (geF B)).map (·.2) = ((L.take i).filter (geF B)).map (·.2) ++ (if B ≤ (L.getD i default).1 then [(L.getD i default).2] else []) := by
  rw [take_get' hi, List.filter_append, List.map_append]
  congr 1
  by_cases h : B ≤ (L.getD i default).1
  · rw [if_pos h, List.filter_cons_of_pos (show geF B (L.getD i default) = true from decide_eq_true h)]; rfl
  · rw [if_neg h, List.filter_cons_of_neg (show ¬ geF B (L.getD i default) = true by unfold geF; rw [decide_eq_false h]; simp)]; rfl
theorem mapD1 {L : List Dot} {i : Nat} (h : i < L.length) : (L.map (·.1)).getD i default = (L.getD i default).1 := by
  rw [getD_at (by rw [List.length_map]; exact h), getD_at h, List.getElem_map]
theorem mapD2 {L : List Dot} {i : Nat} (h : i < L.length) : (L.map (·.2)).getD i default = (L.getD i default).2 := by
  rw [getD_at (by rw [List.length_map]; exact h), getD_at h, List.getElem_map]
theorem refList_w (L : List Dot) (ex ey : Bool) (r : Nat) (p : Int) (hL : L.length ≤ 1000000) (hr : r ≤ 1000000) (hp : 0 ≤ p ∧ p < 8) : PCall Try.prog 15 [.p (.sl 1 ((L.map (·.1)).map uR) ex), .p (.sl 1 ((L.map (·.2)).map iR) ey), .p (.i r), .p (.i p)] (.p (.sl 1 ((listF L r (2305843009213693952 * p)).map iR) false)) := by
  refine pcall_of Try.func15 rfl (fun w0 F S0 M0 => ?_)
  obtain ⟨B, hB⟩ : ∃ B, B = 2305843009213693952 * p := ⟨_, rfl⟩
  obtain ⟨P, hP⟩ : ∃ P, P = L.map (·.1) := ⟨_, rfl⟩
  obtain ⟨O, hO⟩ : ∃ O, O = L.map (·.2) := ⟨_, rfl⟩
  have pl : P.length = L.length := by rw [hP, List.length_map]
  have ol : O.length = L.length := by rw [hO, List.length_map]
  have pg : ∀ i : Nat, i < L.length → P.getD i default = (L.getD i default).1 := fun i hi => by rw [hP]; exact mapD1 hi
  have og : ∀ i : Nat, i < L.length → O.getD i default = (L.getD i default).2 := fun i hi => by rw [hO]; exact mapD2 hi
  rw [← hP, ← hO, ← hB]
  have lf : listF L r B = (dl ((L.filter (geF B) ++ L).map (·.2))).take r := by
    unfold listF; rw [← ref_list]; rfl
  rw [lf]
  clear hP hO
  repeat' (first
      | refine rnC ?_
      | refine rnSB ?_
      | refine rnG ?_
      | refine rnU ?_
      | ((fail_if_success (refine rnKn ?_)); refine rnP ?_ ?_ <;> (intro hq; try (have hq' := hq; simp only [hqs] at hq')))
      | refine rkC ?_
      | refine rkSB ?_
      | refine rkF ?_
      | refine rkU ?_
      | ((fail_if_success (refine rkKn ?_)); refine rkP ?_ ?_ <;> (intro hq; try (have hq' := hq; simp only [hqs] at hq')))
      | refine stp ?_
      | refine ifT ?_
      | refine ifF ?_
      | (refine ifQ ?_ ?_ <;> (try (intro hn)))
      | (refine ifB ?_ ?_ <;> (intro hq; try (have hq' := hq; simp only [hqs] at hq'))))
  rw [← hB]
  refine aws_says (says_nil (t := 10) (o := 901) (ty := 3) (es := 1) rfl rfl (by decide)) ?_
  refine aws_loopS [10, 11, 12, 16, 17, 18, 19, 20, 21, 22, 23, 24, 25, 26, 27, 28, 29, 30, 31, 32, 33, 34, 35, 36, 37, 38, 39, 40, 41, 42, 43, 44, 45, 46, 47, 48, 49, 50, 51, 52, 53, 54, 55, 56] [901] (fun (x : Nat × Nat × List Int) => [(11, .p (.i x.1)), (10, .o (.osl 901 x.2.1 1 0 x.2.2.length))]) (fun x => [(901, (x.2.1 + 1, some (.buf 3 1 (x.2.2.map iR))))])
    (fun x => x.1 ≤ 2 ∧ x.2.2 = if x.1 = 0 then [] else if x.1 = 1 then (dl ((L.filter (geF B)).map (·.2))).take r else (dl ((L.filter (geF B) ++ L).map (·.2))).take r) (fun x => 2 - x.1) (0, 0, []) ⟨by decide, rfl⟩ (by exact knA) (by exact knA) ?_
  rintro ⟨t, g, m⟩ β γ ⟨ht, hm⟩
  simp only at ht hm
  dsimp only
  rcases (show t = 0 ∨ t = 1 ∨ t = 2 by omega) with rfl | rfl | rfl
  · rw [if_pos rfl] at hm
    subst hm
    repeat' (first
        | refine rnC ?_
        | refine rnSB ?_
        | refine rnG ?_
        | refine rnU ?_
        | ((fail_if_success (refine rnKn ?_)); refine rnP ?_ ?_ <;> (intro hq; try (have hq' := hq; simp only [hqs] at hq')))
        | refine rkC ?_
        | refine rkSB ?_
        | refine rkF ?_
        | refine rkU ?_
        | ((fail_if_success (refine rkKn ?_)); refine rkP ?_ ?_ <;> (intro hq; try (have hq' := hq; simp only [hqs] at hq')))
        | refine stp ?_
        | refine ifT ?_
        | refine ifF ?_
        | (refine ifQ ?_ ?_ <;> (try (intro hn)))
        | (refine ifB ?_ ?_ <;> (intro hq; try (have hq' := hq; simp only [hqs] at hq'))))
    refine aws_loopS [10, 12, 20, 21, 22, 23, 24, 25, 26, 27, 28, 29, 30, 31, 32, 33, 34, 35, 36, 37, 38, 39, 40, 41, 42, 43, 44, 45, 46, 47, 48, 49, 50, 51, 52, 53, 54, 55, 56] [901] (fun (x : Nat × Nat × List Int) => [(12, .p (.i x.1)), (10, .o (.osl 901 x.2.1 1 0 x.2.2.length))]) (fun x => [(901, (x.2.1 + 1, some (.buf 3 1 (x.2.2.map iR))))])
      (fun x => x.1 ≤ L.length ∧ x.2.2 = (dl (((L.take x.1).filter (geF B)).map (·.2))).take r) (fun x => L.length - x.1) (0, g, []) ⟨Nat.zero_le _, by dsimp only; rw [List.take_zero]; exact (List.take_nil (i := r)).symm⟩ (by exact knA) (by exact knA) ?_
    rintro ⟨i, g, m⟩ β γ ⟨hi, hm⟩
    simp only at hi hm
    have hml : m.length ≤ r := by rw [hm, List.length_take]; omega
    dsimp only
    by_cases hil : i < L.length
    · have d1 : decide ((i : Int) < (P.length : Int)) = true := decide_eq_true (by omega)
      have ei : (i : Int).toNat = i := Int.toNat_natCast i
      have hst := congrArg dl (snocG (B := B) hil)
      by_cases hb : P.getD (i : Int).toNat default < B
      · have d2 : decide (P.getD (i : Int).toNat default < B) = true := decide_eq_true hb
        rw [ei, pg i hil] at hb
        rw [if_neg (show ¬ B ≤ (L.getD i default).1 by omega), List.append_nil] at hst
        as_aux_lemma =>
          repeat' (first
              | refine rnC ?_
              | refine rnSB ?_
              | refine rnG ?_
              | refine rnU ?_
              | ((fail_if_success (refine rnKn ?_)); refine rnP ?_ ?_ <;> (intro hq; try (have hq' := hq; simp only [hqs] at hq')))
              | refine rkC ?_
              | refine rkSB ?_
              | refine rkF ?_
              | refine rkU ?_
              | ((fail_if_success (refine rkKn ?_)); refine rkP ?_ ?_ <;> (intro hq; try (have hq' := hq; simp only [hqs] at hq')))
              | refine stp ?_
              | refine ifT ?_
              | refine ifF ?_
              | (refine ifQ ?_ ?_ <;> (try (intro hn)))
              | (refine ifB ?_ ?_ <;> (intro hq; try (have hq' := hq; simp only [hqs] at hq'))))
          exact ⟨(i + 1, g, m), _, by dsimp only; omega, ⟨by dsimp only; omega, by dsimp only; rw [hst]; exact hm⟩, .refl, by exact frA⟩
      · have d2 : decide (P.getD (i : Int).toNat default < B) = false := decide_eq_false hb
        rw [ei, pg i hil] at hb
        rw [if_pos (show B ≤ (L.getD i default).1 by omega)] at hst
        have hst2 := congrArg (List.take r) hst
        rw [take_step, ← hm] at hst2
        by_cases hr1 : (r : Int) ≤ (m.length : Int)
        · have d3 : decide ((r : Int) ≤ (m.length : Int)) = true := decide_eq_true hr1
          rw [if_neg (show ¬ (m.length < r ∧ (L.getD i default).2 ∉ m) from fun q => by omega)] at hst2
          as_aux_lemma =>
            repeat' (first
                | refine rnC ?_
                | refine rnSB ?_
                | refine rnG ?_
                | refine rnU ?_
                | ((fail_if_success (refine rnKn ?_)); refine rnP ?_ ?_ <;> (intro hq; try (have hq' := hq; simp only [hqs] at hq')))
                | refine rkC ?_
                | refine rkSB ?_
                | refine rkF ?_
                | refine rkU ?_
                | ((fail_if_success (refine rkKn ?_)); refine rkP ?_ ?_ <;> (intro hq; try (have hq' := hq; simp only [hqs] at hq')))
                | refine stp ?_
                | refine ifT ?_
                | refine ifF ?_
                | (refine ifQ ?_ ?_ <;> (try (intro hn)))
                | (refine ifB ?_ ?_ <;> (intro hq; try (have hq' := hq; simp only [hqs] at hq'))))
            exact ⟨(i + 1, g, m), _, by dsimp only; omega, ⟨by dsimp only; omega, hst2.symm⟩, .refl, by exact frA⟩
        · have d3 : decide ((r : Int) ≤ (m.length : Int)) = false := decide_eq_false hr1
          by_cases hx : O.getD (i : Int).toNat default ∈ m
          · have d4 : decide (O.getD (i : Int).toNat default ∈ m) = true := decide_eq_true hx
            rw [ei, og i hil] at hx
            rw [if_neg (show ¬ (m.length < r ∧ (L.getD i default).2 ∉ m) from fun q => q.2 hx)] at hst2
            as_aux_lemma =>
              repeat' (first
                  | refine rnC ?_
                  | refine rnSB ?_
                  | refine rnG ?_
                  | refine rnU ?_
                  | ((fail_if_success (refine rnKn ?_)); refine rnP ?_ ?_ <;> (intro hq; try (have hq' := hq; simp only [hqs] at hq')))
                  | refine rkC ?_
                  | refine rkSB ?_
                  | refine rkF ?_
                  | refine rkU ?_
                  | ((fail_if_success (refine rkKn ?_)); refine rkP ?_ ?_ <;> (intro hq; try (have hq' := hq; simp only [hqs] at hq')))
                  | refine stp ?_
                  | refine ifT ?_
                  | refine ifF ?_
                  | (refine ifQ ?_ ?_ <;> (try (intro hn)))
                  | (refine ifB ?_ ?_ <;> (intro hq; try (have hq' := hq; simp only [hqs] at hq'))))
              exact ⟨(i + 1, g, m), _, by dsimp only; omega, ⟨by dsimp only; omega, hst2.symm⟩, .refl, by exact frA⟩
          · have d4 : decide (O.getD (i : Int).toNat default ∈ m) = false := decide_eq_false hx
            rw [ei, og i hil] at hx
            rw [if_pos (show m.length < r ∧ (L.getD i default).2 ∉ m from ⟨by omega, hx⟩), ← og i hil] at hst2
            as_aux_lemma =>
              repeat' (first
                  | refine rnC ?_
                  | refine rnSB ?_
                  | refine rnG ?_
                  | refine rnU ?_
                  | ((fail_if_success (refine rnKn ?_)); refine rnP ?_ ?_ <;> (intro hq; try (have hq' := hq; simp only [hqs] at hq')))
                  | refine rkC ?_
                  | refine rkSB ?_
                  | refine rkF ?_
                  | refine rkU ?_
                  | ((fail_if_success (refine rkKn ?_)); refine rkP ?_ ?_ <;> (intro hq; try (have hq' := hq; simp only [hqs] at hq')))
                  | refine stp ?_
                  | refine ifT ?_
                  | refine ifF ?_
                  | (refine ifQ ?_ ?_ <;> (try (intro hn)))
                  | (refine ifB ?_ ?_ <;> (intro hq; try (have hq' := hq; simp only [hqs] at hq'))))
              refine ⟨(i + 1, g + 1, m ++ [O.getD (i : Int).toNat default]), _, by dsimp only; omega, ⟨by dsimp only; omega, ?_⟩, .refl, by exact frA⟩
              dsimp only
              rw [hst2, ei]
    · have d1 : decide ((i : Int) < (P.length : Int)) = false := decide_eq_false (by omega)
      rw [show L.take i = L from List.take_of_length_le (by omega)] at hm
      as_aux_lemma =>
        repeat' (first
            | refine rnC ?_
            | refine rnSB ?_
            | refine rnG ?_
            | refine rnU ?_
            | ((fail_if_success (refine rnKn ?_)); refine rnP ?_ ?_ <;> (intro hq; try (have hq' := hq; simp only [hqs] at hq')))
            | refine rkC ?_
            | refine rkSB ?_
            | refine rkF ?_
            | refine rkU ?_
            | ((fail_if_success (refine rkKn ?_)); refine rkP ?_ ?_ <;> (intro hq; try (have hq' := hq; simp only [hqs] at hq')))
            | refine stp ?_
            | refine ifT ?_
            | refine ifF ?_
            | (refine ifQ ?_ ?_ <;> (try (intro hn)))
            | (refine ifB ?_ ?_ <;> (intro hq; try (have hq' := hq; simp only [hqs] at hq'))))
        exact ⟨(1, g, m), _, by dsimp only; omega, ⟨by dsimp only; omega, by dsimp only; rw [if_neg (by decide), if_pos rfl]; exact hm⟩, .refl, by exact frA⟩
  · rw [if_neg (by decide), if_pos rfl] at hm
    repeat' (first
        | refine rnC ?_
        | refine rnSB ?_
        | refine rnG ?_
        | refine rnU ?_
        | ((fail_if_success (refine rnKn ?_)); refine rnP ?_ ?_ <;> (intro hq; try (have hq' := hq; simp only [hqs] at hq')))
        | refine rkC ?_
        | refine rkSB ?_
        | refine rkF ?_
        | refine rkU ?_
        | ((fail_if_success (refine rkKn ?_)); refine rkP ?_ ?_ <;> (intro hq; try (have hq' := hq; simp only [hqs] at hq')))
        | refine stp ?_
        | refine ifT ?_
        | refine ifF ?_
        | (refine ifQ ?_ ?_ <;> (try (intro hn)))
        | (refine ifB ?_ ?_ <;> (intro hq; try (have hq' := hq; simp only [hqs] at hq'))))
    refine aws_loopS [10, 12, 20, 21, 22, 23, 24, 25, 26, 27, 28, 29, 30, 31, 32, 33, 34, 35, 36, 37, 38, 39, 40, 41, 42, 43, 44, 45, 46, 47, 48, 49, 50, 51, 52, 53, 54, 55, 56] [901] (fun (x : Nat × Nat × List Int) => [(12, .p (.i x.1)), (10, .o (.osl 901 x.2.1 1 0 x.2.2.length))]) (fun x => [(901, (x.2.1 + 1, some (.buf 3 1 (x.2.2.map iR))))])
      (fun x => x.1 ≤ L.length ∧ x.2.2 = (dl ((L.filter (geF B) ++ L.take x.1).map (·.2))).take r) (fun x => L.length - x.1) (0, g, m) ⟨Nat.zero_le _, by dsimp only; rw [List.take_zero, List.append_nil]; exact hm⟩ (by exact knA) (by exact knA) ?_
    clear hm
    rintro ⟨i, g, m⟩ β γ ⟨hi, hm⟩
    simp only at hi hm
    have hml : m.length ≤ r := by rw [hm, List.length_take]; omega
    dsimp only
    by_cases hil : i < L.length
    · have d1 : decide ((i : Int) < (P.length : Int)) = true := decide_eq_true (by omega)
      have ei : (i : Int).toNat = i := Int.toNat_natCast i
      have hst2 := take_step (r := r) ((L.filter (geF B) ++ L.take i).map (·.2)) (L.getD i default).2
      rw [show (L.filter (geF B) ++ L.take i).map (·.2) ++ [(L.getD i default).2] = (L.filter (geF B) ++ L.take (i + 1)).map (·.2) by rw [take_get' hil, ← List.append_assoc, List.map_append (l₂ := [L.getD i default]), List.map_singleton], ← hm] at hst2
      by_cases hr1 : (r : Int) ≤ (m.length : Int)
      · have d3 : decide ((r : Int) ≤ (m.length : Int)) = true := decide_eq_true hr1
        rw [if_neg (show ¬ (m.length < r ∧ (L.getD i default).2 ∉ m) from fun q => by omega)] at hst2
        as_aux_lemma =>
          repeat' (first
              | refine rnC ?_
              | refine rnSB ?_
              | refine rnG ?_
              | refine rnU ?_
              | ((fail_if_success (refine rnKn ?_)); refine rnP ?_ ?_ <;> (intro hq; try (have hq' := hq; simp only [hqs] at hq')))
              | refine rkC ?_
              | refine rkSB ?_
              | refine rkF ?_
              | refine rkU ?_
              | ((fail_if_success (refine rkKn ?_)); refine rkP ?_ ?_ <;> (intro hq; try (have hq' := hq; simp only [hqs] at hq')))
              | refine stp ?_
              | refine ifT ?_
              | refine ifF ?_
              | (refine ifQ ?_ ?_ <;> (try (intro hn)))
              | (refine ifB ?_ ?_ <;> (intro hq; try (have hq' := hq; simp only [hqs] at hq'))))
          exact ⟨(i + 1, g, m), _, by dsimp only; omega, ⟨by dsimp only; omega, hst2.symm⟩, .refl, by exact frA⟩
      · have d3 : decide ((r : Int) ≤ (m.length : Int)) = false := decide_eq_false hr1
        by_cases hx : O.getD (i : Int).toNat default ∈ m
        · have d4 : decide (O.getD (i : Int).toNat default ∈ m) = true := decide_eq_true hx
          rw [ei, og i hil] at hx
          rw [if_neg (show ¬ (m.length < r ∧ (L.getD i default).2 ∉ m) from fun q => q.2 hx)] at hst2
          as_aux_lemma =>
            repeat' (first
                | refine rnC ?_
                | refine rnSB ?_
                | refine rnG ?_
                | refine rnU ?_
                | ((fail_if_success (refine rnKn ?_)); refine rnP ?_ ?_ <;> (intro hq; try (have hq' := hq; simp only [hqs] at hq')))
                | refine rkC ?_
                | refine rkSB ?_
                | refine rkF ?_
                | refine rkU ?_
                | ((fail_if_success (refine rkKn ?_)); refine rkP ?_ ?_ <;> (intro hq; try (have hq' := hq; simp only [hqs] at hq')))
                | refine stp ?_
                | refine ifT ?_
                | refine ifF ?_
                | (refine ifQ ?_ ?_ <;> (try (intro hn)))
                | (refine ifB ?_ ?_ <;> (intro hq; try (have hq' := hq; simp only [hqs] at hq'))))
            exact ⟨(i + 1, g, m), _, by dsimp only; omega, ⟨by dsimp only; omega, hst2.symm⟩, .refl, by exact frA⟩
        · have d4 : decide (O.getD (i : Int).toNat default ∈ m) = false := decide_eq_false hx
          rw [ei, og i hil] at hx
          rw [if_pos (show m.length < r ∧ (L.getD i default).2 ∉ m from ⟨by omega, hx⟩), ← og i hil] at hst2
          as_aux_lemma =>
            repeat' (first
                | refine rnC ?_
                | refine rnSB ?_
                | refine rnG ?_
                | refine rnU ?_
                | ((fail_if_success (refine rnKn ?_)); refine rnP ?_ ?_ <;> (intro hq; try (have hq' := hq; simp only [hqs] at hq')))
                | refine rkC ?_
                | refine rkSB ?_
                | refine rkF ?_
                | refine rkU ?_
                | ((fail_if_success (refine rkKn ?_)); refine rkP ?_ ?_ <;> (intro hq; try (have hq' := hq; simp only [hqs] at hq')))
                | refine stp ?_
                | refine ifT ?_
                | refine ifF ?_
                | (refine ifQ ?_ ?_ <;> (try (intro hn)))
                | (refine ifB ?_ ?_ <;> (intro hq; try (have hq' := hq; simp only [hqs] at hq'))))
            refine ⟨(i + 1, g + 1, m ++ [O.getD (i : Int).toNat default]), _, by dsimp only; omega, ⟨by dsimp only; omega, ?_⟩, .refl, by exact frA⟩
            dsimp only
            rw [hst2, ei]
    · have d1 : decide ((i : Int) < (P.length : Int)) = false := decide_eq_false (by omega)
      rw [show L.take i = L from List.take_of_length_le (by omega)] at hm
      as_aux_lemma =>
        repeat' (first
            | refine rnC ?_
            | refine rnSB ?_
            | refine rnG ?_
            | refine rnU ?_
            | ((fail_if_success (refine rnKn ?_)); refine rnP ?_ ?_ <;> (intro hq; try (have hq' := hq; simp only [hqs] at hq')))
            | refine rkC ?_
            | refine rkSB ?_
            | refine rkF ?_
            | refine rkU ?_
            | ((fail_if_success (refine rkKn ?_)); refine rkP ?_ ?_ <;> (intro hq; try (have hq' := hq; simp only [hqs] at hq')))
            | refine stp ?_
            | refine ifT ?_
            | refine ifF ?_
            | (refine ifQ ?_ ?_ <;> (try (intro hn)))
            | (refine ifB ?_ ?_ <;> (intro hq; try (have hq' := hq; simp only [hqs] at hq'))))
        exact ⟨(2, g, m), _, by dsimp only; omega, ⟨by dsimp only; omega, by dsimp only; rw [if_neg (by decide), if_neg (by decide)]; exact hm⟩, .refl, by exact frA⟩
  · rw [if_neg (by decide), if_neg (by decide)] at hm
    rw [← hm]
    as_aux_lemma =>
      repeat' (first
          | refine rnC ?_
          | refine rnSB ?_
          | refine rnG ?_
          | refine rnU ?_
          | ((fail_if_success (refine rnKn ?_)); refine rnP ?_ ?_ <;> (intro hq; try (have hq' := hq; simp only [hqs] at hq')))
          | refine rkC ?_
          | refine rkSB ?_
          | refine rkF ?_
          | refine rkU ?_
          | ((fail_if_success (refine rkKn ?_)); refine rkP ?_ ?_ <;> (intro hq; try (have hq' := hq; simp only [hqs] at hq')))
          | refine stp ?_
          | refine ifT ?_
          | refine ifF ?_
          | (refine ifQ ?_ ?_ <;> (try (intro hn)))
          | (refine ifB ?_ ?_ <;> (intro hq; try (have hq' := hq; simp only [hqs] at hq'))))
      exact rt1 rfl rfl (.one (finC_map rfl rfl rfl rfl)) rfl
instance refList_i {L : List Dot} {ex ey : Bool} {r : Nat} {p : Int} : PC Try.prog 15 [.p (.sl 1 ((L.map (·.1)).map uR) ex), .p (.sl 1 ((L.map (·.2)).map iR) ey), .p (.i r), .p (.i p)] (L.length ≤ 1000000 ∧ r ≤ 1000000 ∧ 0 ≤ p ∧ p < 8) (.p (.sl 1 ((listF L r (2305843009213693952 * p)).map iR) false)) := ⟨fun h => refList_w L ex ey r p h.1 h.2.1 h.2.2⟩
end Go.Proofs.Ytebjmleheiefdaa.Rg
namespace Go.Proofs.Ytebjmleheiefdaa.Rg
open Go Go.RowKit Go.Aw Go.Aw.Cart Go.Aw.Ord Go.Sort Go.Proofs.Ytebjmleheiefdaa.Ca
set_option linter.unusedVariables false
set_option linter.unusedSimpArgs false
set_option maxRecDepth 8000
set_option maxHeartbeats 4000000
theorem idxP_found {p : Dot → Bool} {l : List Dot} : ∀ (n k : Nat), k + n = l.length → (idxP p l k n = -1 ∧ ∀ i, k ≤ i → i < l.length → p (l.getD i default) = false) ∨ ∃ i0 : Nat, idxP p l k n = i0 ∧ k ≤ i0 ∧ i0 < l.length ∧ p (l.getD i0 default) = true ∧ ∀ i, k ≤ i → i < i0 → p (l.getD i default) = false
  | 0, k, h => .inl ⟨rfl, fun i h1 h2 => by omega⟩
  | n + 1, k, h => by
    rw [idxP]
    by_cases hp : p (l.getD k default) = true
    · rw [if_pos hp]; exact .inr ⟨k, rfl, Nat.le_refl _, by omega, hp, fun i h1 h2 => by omega⟩
    · rw [if_neg hp]
      have hp' := Bool.eq_false_iff.2 hp
      rcases idxP_found (p := p) (l := l) n (k + 1) (by omega) with ⟨h1, h2⟩ | ⟨i0, h1, h2, h3, h4, h5⟩
      · refine .inl ⟨h1, fun i k1 k2 => ?_⟩
        by_cases e : i = k
        · rw [e]; exact hp'
        · exact h2 i (by omega) k2
      · refine .inr ⟨i0, h1, by omega, h3, h4, fun i k1 k2 => ?_⟩
        by_cases e : i = k
        · rw [e]; exact hp'
        · exact h5 i (by omega) k2
theorem filter_none {α : Type} {p : α → Bool} {l : List α} (h : ∀ x ∈ l, p x = false) : l.filter p = [] := List.filter_eq_nil_iff.2 fun x hx => by rw [h x hx]; simp
theorem filter_every {α : Type} {p : α → Bool} {l : List α} (h : ∀ x ∈ l, p x = true) : l.filter p = l := List.filter_eq_self.2 h
/-- from the first point at the base or behind it on, and round -/
theorem rot_is {L : List Dot} {B : Int} (hu : upI ltD L) : ∃ i : Nat, i ≤ L.length ∧ (idxP (geF B) L 0 L.length = -1 ∧ i = 0 ∨ idxP (geF B) L 0 L.length = i) ∧ L.drop i ++ L.take i = rotF B L := by
  have e : rotF B L = L.filter (geF B) ++ L.filter fun p => !geF B p := rfl
  rcases idxP_found (p := geF B) (l := L) L.length 0 (by omega) with ⟨h1, h2⟩ | ⟨i0, h1, h2, h3, h4, h5⟩
  · have hn : ∀ x ∈ L, geF B x = false := fun x hx => by
      obtain ⟨j, hj, q⟩ := getD_mem hx
      rw [← q]; exact h2 j (Nat.zero_le _) hj
    refine ⟨0, Nat.zero_le _, .inl ⟨h1, rfl⟩, ?_⟩
    rw [e, filter_none hn, filter_every (fun x hx => by rw [hn x hx]; rfl), List.drop_zero, List.take_zero, List.append_nil, List.nil_append]
  · refine ⟨i0, by omega, .inr h1, ?_⟩
    have ht : ∀ x ∈ L.take i0, geF B x = false := fun x hx => by
      obtain ⟨j, hj, rfl⟩ := List.mem_take_iff_getElem.1 hx
      have := h5 j (Nat.zero_le _) (by omega)
      rwa [getD_at (by omega)] at this
    have hd : ∀ x ∈ L.drop i0, geF B x = true := fun x hx => by
      obtain ⟨j, hj, rfl⟩ := List.mem_drop_iff_getElem.1 hx
      by_cases hj0 : j = 0
      · subst hj0; rw [getD_at h3] at h4; simpa using h4
      · have hp := List.pairwise_iff_getElem.1 hu i0 (i0 + j) h3 (by omega) (by omega)
        unfold geF at h4 ⊢
        have h4' := of_decide_eq_true h4
        rw [getD_at h3] at h4'
        unfold ltD at hp
        exact decide_eq_true (by omega)
    have hL : L = L.take i0 ++ L.drop i0 := (List.take_append_drop _ _).symm
    rw [e]
    conv => rhs; rw [hL, List.filter_append, List.filter_append]
    rw [filter_none ht, filter_every hd, filter_every (fun x hx => by rw [ht x hx]; rfl), filter_none (fun x hx => by rw [hd x hx]; rfl), List.nil_append, List.append_nil]
namespace PA
theorem lopC {C : Ctx} {o : Oper} {σ : St} {e : Eff} {ro : Nat → Bool} (h : LOp C o σ e ro := by
    first
      | (apply gCallF; (focus rfl); first
          | (apply lop_lend2; (focus rfl); (focus exact inferInstance); (focus rfl); (focus rfl); (focus rfl); (focus exact (List.length_map ..).symm); (focus first | exact lk_m1 rfl | exact lk_m2 rfl | exact lk_m3 rfl | exact lk_o rfl | exact lk_a2 rfl | exact lk_a3 rfl | exact lk_a4 rfl | exact lk_a1 rfl | exact lk_a5 rfl | exact lk_a6 rfl | exact lk_a7 rfl | exact lk_a8 rfl | exact lk_a rfl); (focus exact inferInstance); (focus exact inferInstance); (focus first | exact True.intro | assumption | rfl | omega | ((repeat' (first | assumption | refine And.intro ?_ ?_ | omega | rfl)); done) | fail); (focus exact RV.v); (focus rfl)))
      | (apply lop_max_l; (focus rfl); (focus rfl); (focus rfl); (focus omega); (focus rfl))
      | (apply lop_max_r; (focus rfl); (focus rfl); (focus rfl); (focus omega); (focus rfl))
      | (apply gField; (focus rfl); first | exact lop_fieldAddr_p rfl rfl (by decide) rfl rfl | exact lop_fieldAddr_bx rfl rfl (by decide) rfl rfl)
            | (apply lop_bsa; (focus rfl); (focus exact inferInstance); (focus exact inferInstance); (focus exact inferInstance); (focus repeat' (first | exact All2.nil | (apply bs_cons; (focus rfl); (focus rfl); (focus rfl)))); (focus rfl); (focus decide); (focus first | decide | omega); (focus rfl); (focus rfl))
            | (apply lop_mfa1; (focus rfl); (focus rfl); (focus rfl); (focus rfl); (focus rfl); (focus rfl))
            | (apply lop_mfa2; (focus rfl); (focus rfl); (focus rfl); (focus rfl); (focus rfl); (focus rfl); (focus rfl); (focus rfl); (focus rfl); (focus decide); (focus rfl))
            | (apply lop_mfa3; (focus rfl); (focus rfl); (focus rfl); (focus rfl); (focus rfl); (focus rfl); (focus rfl); (focus rfl); (focus rfl); (focus rfl); (focus rfl); (focus rfl); (focus rfl); (focus decide); (focus decide); (focus decide); (focus rfl))
            | (apply gLoad; (focus rfl); apply lop_ld_bxp; (focus rfl); (focus exact inferInstance); (focus rfl); (focus rfl); (focus rfl); (focus rfl); (focus rfl))
      | exact lopV
      | fail) : LOp C o σ e ro := h
section steps
variable {C : Ctx} {ops : Array Oper} {o : Oper} {rest : List Oper} {K : St → Prop} {σ : St} {e : Eff} {ro : Nat → Bool} {W : List (Nat × Nat)} {i : Nat}
theorem rnC {d : Nat} (hk : RunN C ops rest K (e.app (some d) σ)) (hg : Guard ops σ o true := by first | exact gd_n rfl rfl | exact gd_t rfl rfl rfl rfl | exact gd_t rfl rfl rfl (by assumption)) (hd : o.dst = some d := by rfl) (h : LOp C o σ e ro := by exact lopC) : RunN C ops (o :: rest) K σ := rn_any hg hd h hk
theorem rkC {d : Nat} (hk : RunK C ops W (i + 1) rest K (e.app (some d) σ)) (hg : Guard ops σ o true := by first | exact gd_n rfl rfl | exact gd_t rfl rfl rfl rfl | exact gd_t rfl rfl rfl (by assumption)) (hd' : o.dst = some d := by rfl) (hd : dOk C o.dst = true := by rfl) (h : LOp C o σ e ro := by exact lopC)
    (hro : ∀ x, ro x = true → okObj ops W i x = true := by first | exact fun _ => ro_none | exact ro_one rfl | exact ro_k1 rfl | exact ro_one (by kernel_rfl) | exact ro_k1 (by kernel_rfl) | exact ro_kIn (by decide)) (hob : ∀ p ∈ e.obj, (i, p.1) ∈ W := by first | exact ob_none | exact ob_one (by decide) | decide) : RunK C ops W i (o :: rest) K σ := rk_wr hg hd' hd h hro hob hk
end steps
end PA
open PA
theorem points1_o (q n v r : Nat) (hn : n ≤ 8) (hv : v ≤ 16) : OCall Try.prog 11 [.o (.ptr 1000 q 0)] (memL [(1000, (q + 1, some (ringM n v r)))]) (.p (.sl 1 (((pts n v).map (·.1)).map uR) false)) (memL [(1000, (q + 1, some (ringM n v r)))]) := by
  refine ocall_of1 Try.func11 rfl (fun w0 F S0 M0 => ?_)
  have hl : (pts n v).length ≤ 128 := by rw [pts_len]; exact Nat.mul_le_mul hn hv
  haveI : ∀ c g m : Nat, OC Try.prog 21 [.o (.ptr c g 0)] [(c, (m, some (ringM n v r)))] [] (m = g + 1) (.p (.sl 2 ((pts n v).map pR) false)) [(c, (m, some (ringM n v r)))] := fun c g m => ⟨fun h => points_i.call ⟨h, hn, hv⟩⟩
  generalize pts n v = L at *
  repeat' (first
      | refine rnC ?_
      | refine rnSB ?_
      | refine rnG ?_
      | refine rnU ?_
      | ((fail_if_success (refine rnKn ?_)); refine rnP ?_ ?_ <;> (intro hq; try (have hq' := hq; simp only [hqs] at hq')))
      | refine rkC ?_
      | refine rkSB ?_
      | refine rkF ?_
      | refine rkU ?_
      | ((fail_if_success (refine rkKn ?_)); refine rkP ?_ ?_ <;> (intro hq; try (have hq' := hq; simp only [hqs] at hq')))
      | refine stp ?_
      | refine ifT ?_
      | refine ifF ?_
      | (refine ifQ ?_ ?_ <;> (try (intro hn)))
      | (refine ifB ?_ ?_ <;> (intro hq; try (have hq' := hq; simp only [hqs] at hq'))))
  refine aws_says (says_nil (t := 3) (o := 901) (ty := 39) (es := 1) rfl rfl (by decide)) ?_
  refine aws_loopS [3, 5, 9, 10, 11, 12, 13, 14, 15, 16, 17, 18] [5, 901] (fun (x : Nat × Nat × List Int × Option MO) => [(9, .p (.i x.1)), (3, .o (.osl 901 x.2.1 1 0 x.2.2.1.length))]) (fun x => [(5, (x.1, x.2.2.2)), (901, (x.2.1 + 1, some (.buf 39 1 (x.2.2.1.map uR))))])
    (fun x => x.1 ≤ L.length ∧ x.2.2.1 = (L.take x.1).map (·.1)) (fun x => L.length - x.1) (0, 0, [], none) ⟨Nat.zero_le _, rfl⟩ (by exact knA) (by exact knA) ?_
  rintro ⟨i, g, m, c5⟩ β γ ⟨hi, hm⟩
  simp only at hi hm
  have hml : m.length ≤ 128 := by rw [hm, List.length_map, List.length_take]; omega
  dsimp only
  by_cases hil : i < L.length
  · have hd : decide ((i : Int) < (L.length : Int)) = true := decide_eq_true (by omega)
    have ei : (i : Int).toNat = i := Int.toNat_natCast i
    as_aux_lemma =>
      repeat' (first
          | refine rnC ?_
          | refine rnSB ?_
          | refine rnG ?_
          | refine rnU ?_
          | ((fail_if_success (refine rnKn ?_)); refine rnP ?_ ?_ <;> (intro hq; try (have hq' := hq; simp only [hqs] at hq')))
          | refine rkC ?_
          | refine rkSB ?_
          | refine rkF ?_
          | refine rkU ?_
          | ((fail_if_success (refine rkKn ?_)); refine rkP ?_ ?_ <;> (intro hq; try (have hq' := hq; simp only [hqs] at hq')))
          | refine stp ?_
          | refine ifT ?_
          | refine ifF ?_
          | (refine ifQ ?_ ?_ <;> (try (intro hn)))
          | (refine ifB ?_ ?_ <;> (intro hq; try (have hq' := hq; simp only [hqs] at hq'))))
      refine ⟨(i + 1, g + 1, m ++ [(L.getD (i : Int).toNat default).1], _), _, by dsimp only; omega, ⟨by dsimp only; omega, ?_⟩, .refl, by exact frA⟩
      dsimp only
      rw [take_get' hil, List.map_append, hm, ei]; rfl
  · have hd : decide ((i : Int) < (L.length : Int)) = false := decide_eq_false (by omega)
    rw [List.take_of_length_le (by omega)] at hm
    subst hm
    as_aux_lemma =>
      repeat' (first
          | refine rnC ?_
          | refine rnSB ?_
          | refine rnG ?_
          | refine rnU ?_
          | ((fail_if_success (refine rnKn ?_)); refine rnP ?_ ?_ <;> (intro hq; try (have hq' := hq; simp only [hqs] at hq')))
          | refine rkC ?_
          | refine rkSB ?_
          | refine rkF ?_
          | refine rkU ?_
          | ((fail_if_success (refine rkKn ?_)); refine rkP ?_ ?_ <;> (intro hq; try (have hq' := hq; simp only [hqs] at hq')))
          | refine stp ?_
          | refine ifT ?_
          | refine ifF ?_
          | (refine ifQ ?_ ?_ <;> (try (intro hn)))
          | (refine ifB ?_ ?_ <;> (intro hq; try (have hq' := hq; simp only [hqs] at hq'))))
      exact RetO.mk (ot1 rfl rfl (.one (finC_map rfl rfl rfl rfl)) rfl) ⟨.abs, trivial⟩
instance points1_i {c g m n v r : Nat} : OC Try.prog 11 [.o (.ptr c g 0)] [(c, (m, some (ringM n v r)))] [] (m = g + 1 ∧ n ≤ 8 ∧ v ≤ 16) (.p (.sl 1 (((pts n v).map (·.1)).map uR) false)) [(c, (m, some (ringM n v r)))] := ⟨fun h => by obtain ⟨rfl, h1, h2⟩ := h; exact (points1_o g n v r h1 h2).one c⟩
end Go.Proofs.Ytebjmleheiefdaa.Rg
