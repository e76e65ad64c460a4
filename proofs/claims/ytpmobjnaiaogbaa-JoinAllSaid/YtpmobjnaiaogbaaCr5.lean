/- the reference, chapter 08: the join of two carts, and of any many -/
import Derived.Test.YtpmobjnaiaogbaaCr4
namespace Go.Proofs.Ytpmobjnaiaogbaa.Cs
open Go Go.RowKit Go.Aw Go.Aw.Cart Go.Aw.Ord Go.Proofs.Ytpmobjnaiaogbaa.Ca
set_option linter.unusedVariables false
set_option linter.unusedSimpArgs false
set_option maxRecDepth 8000
set_option maxHeartbeats 4000000
namespace R5
theorem lopC {C : Ctx} {o : Oper} {σ : St} {e : Eff} {ro : Nat → Bool} (h : LOp C o σ e ro := by
    first
      | (apply gLoad; (focus rfl); apply lop_ld_atn; (focus rfl); (focus exact inferInstance); (focus rfl); (focus rfl); (focus decide); (focus rfl); (focus repeat' (first | exact All2.nil | (apply All2.cons; (focus rfl)))); (focus rfl))
      | exact Go.Proofs.Ytpmobjnaiaogbaa.Cr.R4.lopC
      | fail) : LOp C o σ e ro := h
section steps
variable {C : Ctx} {ops : Array Oper} {o : Oper} {rest : List Oper} {K : St → Prop} {σ : St} {e : Eff} {ro : Nat → Bool} {W : List (Nat × Nat)} {i : Nat}
theorem rnC {d : Nat} (hk : RunN C ops rest K (e.app (some d) σ)) (hg : Guard ops σ o true := by first | exact gd_n rfl rfl | exact gd_t rfl rfl rfl rfl | exact gd_t rfl rfl rfl (by assumption)) (hd : o.dst = some d := by rfl) (h : LOp C o σ e ro := by exact lopC) : RunN C ops (o :: rest) K σ := rn_any hg hd h hk
theorem rkC {d : Nat} (hk : RunK C ops W (i + 1) rest K (e.app (some d) σ)) (hg : Guard ops σ o true := by first | exact gd_n rfl rfl | exact gd_t rfl rfl rfl rfl | exact gd_t rfl rfl rfl (by assumption)) (hd' : o.dst = some d := by rfl) (hd : dOk C o.dst = true := by rfl) (h : LOp C o σ e ro := by exact lopC)
    (hro : ∀ x, ro x = true → okObj ops W i x = true := by first | exact fun _ => ro_none | exact ro_one rfl | exact ro_k1 rfl | exact ro_one (by kernel_rfl) | exact ro_k1 (by kernel_rfl) | exact ro_kIn (by decide)) (hob : ∀ p ∈ e.obj, (i, p.1) ∈ W := by first | exact ob_none | exact ob_one (by decide) | decide) : RunK C ops W i (o :: rest) K σ := rk_wr hg hd' hd h hro hob hk
end steps
end R5
open R5
theorem filter_snoc {p : Ent → Bool} {l : List Ent} {i : Nat} (hi : i < l.length) : (l.take (i + 1)).filter p = (l.take i).filter p ++ (if p (l.getD i default) = true then [l.getD i default] else []) := by
  rw [take_get' hi, List.filter_append]
  congr 1
  by_cases h : p (l.getD i default) = true
  · rw [if_pos h, List.filter_cons_of_pos h]; rfl
  · rw [if_neg h, List.filter_cons_of_neg h]; rfl
theorem two_r (v w : List Int) (l m : List Ent) (ex ey : Bool) (hv : v.length = 8) (hw : w.length = 8) (hl : l.length ≤ 1000000) (hm : m.length ≤ 1000000) : PCall Try.prog 57 [cV v l ex, cV w m ey] (.tup [.agg (cL (twoF (v, l) (w, m)).1.1 (twoF (v, l) (w, m)).1.2 false), .one (.p (.i (twoF (v, l) (w, m)).2))]) := by
  refine pcall_of Try.func57 rfl (fun w0 F S0 M0 => ?_)
  have hl2 : l.length ≤ 1000000000 := by omega
  have hm2 : m.length ≤ 1000000000 := by omega
  have s1 := stays_len (v, l) (w, m) true
  have s2 := stays_len (w, m) (v, l) false
  simp only at s1 s2
  have ra := Cr.right_r v l ex hv hl2
  have rb := Cr.right_r w m ey hw hm2
  have rc := Cr.clash_r v w l m ex ey hl2 hm2
  haveI : PC Try.prog 99 [cV v l ex] True (.p (.b (rightF v l))) := ⟨fun _ => ra⟩
  haveI : PC Try.prog 99 [cV w m ey] True (.p (.b (rightF w m))) := ⟨fun _ => rb⟩
  haveI : PC Try.prog 100 [cV v l ex, cV w m ey] True (.p (.b (clashF (v, l) (w, m)))) := ⟨fun _ => rc⟩
  cases hr : rightF v l with
  | false =>
    have d1 : (!rightF v l) = true := by rw [hr]; rfl
    have e : twoF (v, l) (w, m) = ((zeroV, []), 3) := by unfold twoF; rw [if_pos (.inl hr)]
    rw [e]
    as_aux_lemma =>
      repeat' (first
          | refine rnC ?_
          | refine rnSB ?_
          | refine rnG ?_
          | refine rnU ?_
          | ((fail_if_success (refine rnKn ?_)); refine rnP ?_ ?_ <;> (intro hq; try (have hq' := hq; simp only [hqs] at hq')))
          | refine rkC ?_
          | refine rkSB ?_
          | refine rkF ?_
          | refine rkU ?_
          | ((fail_if_success (refine rkKn ?_)); refine rkP ?_ ?_ <;> (intro hq; try (have hq' := hq; simp only [hqs] at hq')))
          | refine stp ?_
          | refine aws_draws [] mixed (by kernel_rfl) ?_
          | refine ifT ?_
          | refine ifF ?_
          | (refine ifQ ?_ ?_ <;> (try (intro hn)))
          | (refine ifB ?_ ?_ <;> (intro hq; try (have hq' := hq; simp only [hqs] at hq'))))
      exact rc2 rfl rfl rfl rfl rfl rfl fin9 rfl finS_p rfl
  | true =>
    have d1 : (!rightF v l) = false := by rw [hr]; rfl
    cases hs : rightF w m with
    | false =>
      have d2 : (!rightF w m) = true := by rw [hs]; rfl
      have e : twoF (v, l) (w, m) = ((zeroV, []), 3) := by unfold twoF; rw [if_pos (.inr hs)]
      rw [e]
      as_aux_lemma =>
        repeat' (first
            | refine rnC ?_
            | refine rnSB ?_
            | refine rnG ?_
            | refine rnU ?_
            | ((fail_if_success (refine rnKn ?_)); refine rnP ?_ ?_ <;> (intro hq; try (have hq' := hq; simp only [hqs] at hq')))
            | refine rkC ?_
            | refine rkSB ?_
            | refine rkF ?_
            | refine rkU ?_
            | ((fail_if_success (refine rkKn ?_)); refine rkP ?_ ?_ <;> (intro hq; try (have hq' := hq; simp only [hqs] at hq')))
            | refine stp ?_
            | refine aws_draws [] mixed (by kernel_rfl) ?_
            | refine ifT ?_
            | refine ifF ?_
            | (refine ifQ ?_ ?_ <;> (try (intro hn)))
            | (refine ifB ?_ ?_ <;> (intro hq; try (have hq' := hq; simp only [hqs] at hq'))))
        exact rc2 rfl rfl rfl rfl rfl rfl fin9 rfl finS_p rfl
    | true =>
      have d2 : (!rightF w m) = false := by rw [hs]; rfl
      cases hc : clashF (v, l) (w, m) with
      | true =>
        have e : twoF (v, l) (w, m) = ((zeroV, []), 14) := by unfold twoF; rw [if_neg (by simp [hr, hs]), if_pos hc]
        rw [e]
        as_aux_lemma =>
          repeat' (first
              | refine rnC ?_
              | refine rnSB ?_
              | refine rnG ?_
              | refine rnU ?_
              | ((fail_if_success (refine rnKn ?_)); refine rnP ?_ ?_ <;> (intro hq; try (have hq' := hq; simp only [hqs] at hq')))
              | refine rkC ?_
              | refine rkSB ?_
              | refine rkF ?_
              | refine rkU ?_
              | ((fail_if_success (refine rkKn ?_)); refine rkP ?_ ?_ <;> (intro hq; try (have hq' := hq; simp only [hqs] at hq')))
              | refine stp ?_
              | refine aws_draws [] mixed (by kernel_rfl) ?_
              | refine ifT ?_
              | refine ifF ?_
              | (refine ifQ ?_ ?_ <;> (try (intro hn)))
              | (refine ifB ?_ ?_ <;> (intro hq; try (have hq' := hq; simp only [hqs] at hq'))))
          exact rc2 rfl rfl rfl rfl rfl rfl fin9 rfl finS_p rfl
      | false =>
        repeat' (first
            | refine rnC ?_
            | refine rnSB ?_
            | refine rnG ?_
            | refine rnU ?_
            | ((fail_if_success (refine rnKn ?_)); refine rnP ?_ ?_ <;> (intro hq; try (have hq' := hq; simp only [hqs] at hq')))
            | refine rkC ?_
            | refine rkSB ?_
            | refine rkF ?_
            | refine rkU ?_
            | ((fail_if_success (refine rkKn ?_)); refine rkP ?_ ?_ <;> (intro hq; try (have hq' := hq; simp only [hqs] at hq')))
            | refine stp ?_
            | refine aws_draws [] mixed (by kernel_rfl) ?_
            | refine ifT ?_
            | refine ifF ?_
            | (refine ifQ ?_ ?_ <;> (try (intro hn)))
            | (refine ifB ?_ ?_ <;> (intro hq; try (have hq' := hq; simp only [hqs] at hq'))))
        refine aws_says (says_nil (t := 6) (o := 902) (ty := 98) (es := 4) rfl rfl (by decide)) ?_
        refine aws_loopS [6, 7, 22, 23, 24, 25, 26, 27, 28, 29, 30, 31, 32, 33, 34, 35, 36, 37, 38, 39, 40, 41, 42, 43, 44, 45, 46, 47, 48, 49, 50, 51, 52, 53, 54, 55, 56] [902] (fun (x : Nat × Nat × List Ent) => [(7, .p (.i x.1)), (6, .o (.osl 902 x.2.1 4 0 x.2.2.length))]) (fun x => [(902, (x.2.1 + 1, some (.buf 98 4 (x.2.2.map eR))))])
          (fun x => x.1 ≤ l.length ∧ x.2.2 = (l.take x.1).filter (stayP (w, m) true)) (fun x => l.length - x.1) (0, 0, []) ⟨Nat.zero_le _, rfl⟩ (by exact knA) (by exact knA) ?_
        rintro ⟨i, g, p⟩ β γ ⟨hi, hp⟩
        simp only at hi hp
        dsimp only
        have hpl : p.length ≤ 1000000 := by
          have := List.length_filter_le (stayP (w, m) true) (l.take i)
          rw [hp]; rw [List.length_take] at this; omega
        by_cases hil : i < l.length
        · have hlt : decide ((i : Int) < (l.length : Int)) = true := decide_eq_true (by omega)
          have ei : (i : Int).toNat = i := Int.toNat_natCast i
          have hst := filter_snoc (p := stayP (w, m) true) hil
          rw [← hp] at hst
          have hsp : stayP (w, m) true (l.getD i default) = (decide (l.getD i default ∈ m) || !hasF w (dotE (l.getD i default))) := rfl
          cases q1 : decide (l.getD (i : Int).toNat default ∈ m) with
          | true =>
            have q1' := q1
            rw [ei] at q1'
            rw [q1', Bool.true_or] at hsp
            rw [if_pos hsp] at hst
            as_aux_lemma =>
              repeat' (first
                  | refine rnC ?_
                  | refine rnSB ?_
                  | refine rnG ?_
                  | refine rnU ?_
                  | ((fail_if_success (refine rnKn ?_)); refine rnP ?_ ?_ <;> (intro hq; try (have hq' := hq; simp only [hqs] at hq')))
                  | refine rkC ?_
                  | refine rkSB ?_
                  | refine rkF ?_
                  | refine rkU ?_
                  | ((fail_if_success (refine rkKn ?_)); refine rkP ?_ ?_ <;> (intro hq; try (have hq' := hq; simp only [hqs] at hq')))
                  | refine stp ?_
                  | refine aws_draws [] mixed (by kernel_rfl) ?_
                  | refine ifT ?_
                  | refine ifF ?_
                  | (refine ifQ ?_ ?_ <;> (try (intro hn)))
                  | (refine ifB ?_ ?_ <;> (intro hq; try (have hq' := hq; simp only [hqs] at hq'))))
              refine ⟨(i + 1, g + 1, p ++ [(_, _, _, _)]), _, by dsimp only; omega, ⟨by dsimp only; omega, ?_⟩, .refl, by exact frA⟩
              dsimp only
              rw [hst, ei]
          | false =>
            have q1' := q1
            rw [ei] at q1'
            rw [q1', Bool.false_or] at hsp
            cases q2 : hasF w (dotE (l.getD (i : Int).toNat default)) with
            | true =>
              have q3 : (!hasF w (dotE (l.getD (i : Int).toNat default))) = false := by rw [q2]; rfl
              rw [ei] at q3
              rw [q3] at hsp
              rw [if_neg (by rw [hsp]; simp), List.append_nil] at hst
              rw [← ei] at q3
              as_aux_lemma =>
                repeat' (first
                    | refine rnC ?_
                    | refine rnSB ?_
                    | refine rnG ?_
                    | refine rnU ?_
                    | ((fail_if_success (refine rnKn ?_)); refine rnP ?_ ?_ <;> (intro hq; try (have hq' := hq; simp only [hqs] at hq')))
                    | refine rkC ?_
                    | refine rkSB ?_
                    | refine rkF ?_
                    | refine rkU ?_
                    | ((fail_if_success (refine rkKn ?_)); refine rkP ?_ ?_ <;> (intro hq; try (have hq' := hq; simp only [hqs] at hq')))
                    | refine stp ?_
                    | refine aws_draws [] mixed (by kernel_rfl) ?_
                    | refine ifT ?_
                    | refine ifF ?_
                    | (refine ifQ ?_ ?_ <;> (try (intro hn)))
                    | (refine ifB ?_ ?_ <;> (intro hq; try (have hq' := hq; simp only [hqs] at hq'))))
                refine ⟨(i + 1, g, p), _, by dsimp only; omega, ⟨by dsimp only; omega, ?_⟩, .refl, by exact frA⟩
                dsimp only
                exact hst.symm
            | false =>
              have q3 : (!hasF w (dotE (l.getD (i : Int).toNat default))) = true := by rw [q2]; rfl
              rw [ei] at q3
              rw [q3] at hsp
              rw [if_pos hsp] at hst
              rw [← ei] at q3
              as_aux_lemma =>
                repeat' (first
                    | refine rnC ?_
                    | refine rnSB ?_
                    | refine rnG ?_
                    | refine rnU ?_
                    | ((fail_if_success (refine rnKn ?_)); refine rnP ?_ ?_ <;> (intro hq; try (have hq' := hq; simp only [hqs] at hq')))
                    | refine rkC ?_
                    | refine rkSB ?_
                    | refine rkF ?_
                    | refine rkU ?_
                    | ((fail_if_success (refine rkKn ?_)); refine rkP ?_ ?_ <;> (intro hq; try (have hq' := hq; simp only [hqs] at hq')))
                    | refine stp ?_
                    | refine aws_draws [] mixed (by kernel_rfl) ?_
                    | refine ifT ?_
                    | refine ifF ?_
                    | (refine ifQ ?_ ?_ <;> (try (intro hn)))
                    | (refine ifB ?_ ?_ <;> (intro hq; try (have hq' := hq; simp only [hqs] at hq'))))
                refine ⟨(i + 1, g + 1, p ++ [(_, _, _, _)]), _, by dsimp only; omega, ⟨by dsimp only; omega, ?_⟩, .refl, by exact frA⟩
                dsimp only
                rw [hst, ei]
        · have hlt : decide ((i : Int) < (l.length : Int)) = false := decide_eq_false (by omega)
          have hpf : p = staysF (v, l) (w, m) true := by rw [hp, List.take_of_length_le (by omega)]; rfl
          repeat' (first
              | refine rnC ?_
              | refine rnSB ?_
              | refine rnG ?_
              | refine rnU ?_
              | ((fail_if_success (refine rnKn ?_)); refine rnP ?_ ?_ <;> (intro hq; try (have hq' := hq; simp only [hqs] at hq')))
              | refine rkC ?_
              | refine rkSB ?_
              | refine rkF ?_
              | refine rkU ?_
              | ((fail_if_success (refine rkKn ?_)); refine rkP ?_ ?_ <;> (intro hq; try (have hq' := hq; simp only [hqs] at hq')))
              | refine stp ?_
              | refine aws_draws [] mixed (by kernel_rfl) ?_
              | refine ifT ?_
              | refine ifF ?_
              | (refine ifQ ?_ ?_ <;> (try (intro hn)))
              | (refine ifB ?_ ?_ <;> (intro hq; try (have hq' := hq; simp only [hqs] at hq'))))
          refine aws_loopS [6, 8, 57, 58, 59, 60, 61, 62, 63, 64, 65, 66, 67, 68, 69, 70, 71, 72, 73, 74, 75, 76, 77, 78, 79, 80, 81] [902] (fun (x : Nat × Nat × List Ent) => [(8, .p (.i x.1)), (6, .o (.osl 902 x.2.1 4 0 x.2.2.length))]) (fun x => [(902, (x.2.1 + 1, some (.buf 98 4 (x.2.2.map eR))))])
            (fun x => x.1 ≤ m.length ∧ x.2.2 = p ++ (m.take x.1).filter (stayP (v, l) false)) (fun x => m.length - x.1) (0, g, p) ⟨Nat.zero_le _, by simp⟩ (by exact knA) (by exact knA) ?_
          rintro ⟨j, g2, q⟩ β γ ⟨hj, hq⟩
          simp only at hj hq
          dsimp only
          have hql : q.length ≤ 2000000 := by
            have := List.length_filter_le (stayP (v, l) false) (m.take j)
            rw [hq, List.length_append]; rw [List.length_take] at this; omega
          by_cases hjm : j < m.length
          · have hlt2 : decide ((j : Int) < (m.length : Int)) = true := decide_eq_true (by omega)
            have ej : (j : Int).toNat = j := Int.toNat_natCast j
            have hst := filter_snoc (p := stayP (v, l) false) hjm
            have hsp : stayP (v, l) false (m.getD j default) = !hasF v (dotE (m.getD j default)) := by unfold stayP; rw [Bool.false_and, Bool.false_or]
            cases q2 : hasF v (dotE (m.getD (j : Int).toNat default)) with
            | true =>
              have q3 : (!hasF v (dotE (m.getD (j : Int).toNat default))) = false := by rw [q2]; rfl
              rw [ej] at q3
              rw [q3] at hsp
              rw [if_neg (by rw [hsp]; simp), List.append_nil] at hst
              rw [← ej] at q3
              as_aux_lemma =>
                repeat' (first
                    | refine rnC ?_
                    | refine rnSB ?_
                    | refine rnG ?_
                    | refine rnU ?_
                    | ((fail_if_success (refine rnKn ?_)); refine rnP ?_ ?_ <;> (intro hq; try (have hq' := hq; simp only [hqs] at hq')))
                    | refine rkC ?_
                    | refine rkSB ?_
                    | refine rkF ?_
                    | refine rkU ?_
                    | ((fail_if_success (refine rkKn ?_)); refine rkP ?_ ?_ <;> (intro hq; try (have hq' := hq; simp only [hqs] at hq')))
                    | refine stp ?_
                    | refine aws_draws [] mixed (by kernel_rfl) ?_
                    | refine ifT ?_
                    | refine ifF ?_
                    | (refine ifQ ?_ ?_ <;> (try (intro hn)))
                    | (refine ifB ?_ ?_ <;> (intro hq; try (have hq' := hq; simp only [hqs] at hq'))))
                refine ⟨(j + 1, g2, q), _, by dsimp only; omega, ⟨by dsimp only; omega, ?_⟩, .refl, by exact frA⟩
                dsimp only
                rw [hst, hq]
            | false =>
              have q3 : (!hasF v (dotE (m.getD (j : Int).toNat default))) = true := by rw [q2]; rfl
              rw [ej] at q3
              rw [q3] at hsp
              rw [if_pos hsp] at hst
              rw [← ej] at q3
              as_aux_lemma =>
                repeat' (first
                    | refine rnC ?_
                    | refine rnSB ?_
                    | refine rnG ?_
                    | refine rnU ?_
                    | ((fail_if_success (refine rnKn ?_)); refine rnP ?_ ?_ <;> (intro hq; try (have hq' := hq; simp only [hqs] at hq')))
                    | refine rkC ?_
                    | refine rkSB ?_
                    | refine rkF ?_
                    | refine rkU ?_
                    | ((fail_if_success (refine rkKn ?_)); refine rkP ?_ ?_ <;> (intro hq; try (have hq' := hq; simp only [hqs] at hq')))
                    | refine stp ?_
                    | refine aws_draws [] mixed (by kernel_rfl) ?_
                    | refine ifT ?_
                    | refine ifF ?_
                    | (refine ifQ ?_ ?_ <;> (try (intro hn)))
                    | (refine ifB ?_ ?_ <;> (intro hq; try (have hq' := hq; simp only [hqs] at hq'))))
                refine ⟨(j + 1, g2 + 1, q ++ [(_, _, _, _)]), _, by dsimp only; omega, ⟨by dsimp only; omega, ?_⟩, .refl, by exact frA⟩
                dsimp only
                rw [hst, hq, ej, List.append_assoc]
          · have hlt2 : decide ((j : Int) < (m.length : Int)) = false := decide_eq_false (by omega)
            have hqf : q = bothF (v, l) (w, m) := by rw [hq, hpf, List.take_of_length_le (by omega)]; rfl
            by_cases h4 : 400 < q.length
            · have d3 : decide (400 < (q.length : Int)) = true := decide_eq_true (by omega)
              have e : twoF (v, l) (w, m) = ((zeroV, []), 5) := by unfold twoF; rw [if_neg (by simp [hr, hs]), if_neg (by simp [hc]), ← hqf, if_pos h4]
              rw [e]
              as_aux_lemma =>
                repeat' (first
                    | refine rnC ?_
                    | refine rnSB ?_
                    | refine rnG ?_
                    | refine rnU ?_
                    | ((fail_if_success (refine rnKn ?_)); refine rnP ?_ ?_ <;> (intro hq; try (have hq' := hq; simp only [hqs] at hq')))
                    | refine rkC ?_
                    | refine rkSB ?_
                    | refine rkF ?_
                    | refine rkU ?_
                    | ((fail_if_success (refine rkKn ?_)); refine rkP ?_ ?_ <;> (intro hq; try (have hq' := hq; simp only [hqs] at hq')))
                    | refine stp ?_
                    | refine aws_draws [] mixed (by kernel_rfl) ?_
                    | refine ifT ?_
                    | refine ifF ?_
                    | (refine ifQ ?_ ?_ <;> (try (intro hn)))
                    | (refine ifB ?_ ?_ <;> (intro hq; try (have hq' := hq; simp only [hqs] at hq'))))
                exact rc2 rfl rfl rfl rfl rfl rfl fin9 rfl finS_p rfl
            · have d3 : decide (400 < (q.length : Int)) = false := decide_eq_false (by omega)
              have e : twoF (v, l) (w, m) = ((maxV v w, sortE q), 0) := by unfold twoF; rw [if_neg (by simp [hr, hs]), if_neg (by simp [hc]), ← hqf, if_neg h4]
              rw [e]
              have hq9 : q.length ≤ 1000000000 := by omega
              clear hq hqf
              repeat' (first
                  | refine rnC ?_
                  | refine rnSB ?_
                  | refine rnG ?_
                  | refine rnU ?_
                  | ((fail_if_success (refine rnKn ?_)); refine rnP ?_ ?_ <;> (intro hq; try (have hq' := hq; simp only [hqs] at hq')))
                  | refine rkC ?_
                  | refine rkSB ?_
                  | refine rkF ?_
                  | refine rkU ?_
                  | ((fail_if_success (refine rkKn ?_)); refine rkP ?_ ?_ <;> (intro hq; try (have hq' := hq; simp only [hqs] at hq')))
                  | refine stp ?_
                  | refine aws_draws [] mixed (by kernel_rfl) ?_
                  | refine ifT ?_
                  | refine ifF ?_
                  | (refine ifQ ?_ ?_ <;> (try (intro hn)))
                  | (refine ifB ?_ ?_ <;> (intro hq; try (have hq' := hq; simp only [hqs] at hq'))))
              refine rn_says (says_frz (t := 91) (o := 902) rfl rfl rfl (by simp)) rfl ?_
              as_aux_lemma =>
                repeat' (first
                    | refine rnC ?_
                    | refine rnSB ?_
                    | refine rnG ?_
                    | refine rnU ?_
                    | ((fail_if_success (refine rnKn ?_)); refine rnP ?_ ?_ <;> (intro hq; try (have hq' := hq; simp only [hqs] at hq')))
                    | refine rkC ?_
                    | refine rkSB ?_
                    | refine rkF ?_
                    | refine rkU ?_
                    | ((fail_if_success (refine rkKn ?_)); refine rkP ?_ ?_ <;> (intro hq; try (have hq' := hq; simp only [hqs] at hq')))
                    | refine stp ?_
                    | refine aws_draws [] mixed (by kernel_rfl) ?_
                    | refine ifT ?_
                    | refine ifF ?_
                    | (refine ifQ ?_ ?_ <;> (try (intro hn)))
                    | (refine ifB ?_ ?_ <;> (intro hq; try (have hq' := hq; simp only [hqs] at hq'))))
                exact rc2 rfl rfl rfl rfl rfl rfl finL_p rfl finS_p rfl
theorem all_r (l : List Crt) (ex : Bool) (h : l.length ≤ 1000000) (h8 : ∀ x ∈ l, x.1.length = 8 ∧ (∀ n ∈ x.1, 0 ≤ n) ∧ x.2.length ≤ 1000000) : PCall Try.prog 21 [.p (.sl 9 (l.map cRw) ex)] (.tup [.agg (cL (allF l l.length).1.1 (allF l l.length).1.2 false), .one (.p (.i (allF l l.length).2))]) := by
  refine pcall_of Try.func21 rfl (fun w0 F S0 M0 => ?_)
  repeat' (first
      | refine rnC ?_
      | refine rnSB ?_
      | refine rnG ?_
      | refine rnU ?_
      | ((fail_if_success (refine rnKn ?_)); refine rnP ?_ ?_ <;> (intro hq; try (have hq' := hq; simp only [hqs] at hq')))
      | refine rkC ?_
      | refine rkSB ?_
      | refine rkF ?_
      | refine rkU ?_
      | ((fail_if_success (refine rkKn ?_)); refine rkP ?_ ?_ <;> (intro hq; try (have hq' := hq; simp only [hqs] at hq')))
      | refine stp ?_
      | refine aws_draws [] mixed (by kernel_rfl) ?_
      | refine ifT ?_
      | refine ifF ?_
      | (refine ifQ ?_ ?_ <;> (try (intro hn)))
      | (refine ifB ?_ ?_ <;> (intro hq; try (have hq' := hq; simp only [hqs] at hq'))))
  refine aws_says (says_nils_at (p := 4) (k := 8) (es := 4) (ex := false) (ds := cL zeroV [] false) rfl rfl rfl) ?_
  refine aws_loopS [3, 5, 6, 7, 9, 10, 11, 12, 13, 14, 15, 16, 17, 18, 19, 20, 21, 22, 23, 24, 25, 26, 27, 28] [4, 6] (fun (x : Nat × Crt × Option MO) => [(5, .p (.i x.1))]) (fun x => [(4, (1, some (.box 37 (cL x.2.1.1 x.2.1.2 false)))), (6, (x.1, x.2.2))])
    (fun x => x.1 ≤ l.length ∧ Far l x.1 x.2.1) (fun x => l.length - x.1) (0, (zeroV, []), none) ⟨Nat.zero_le _, Far.zero l⟩ (by exact knA) (by exact knA) ?_
  rintro ⟨i, ⟨rv, rl⟩, c6⟩ β γ ⟨hi, hf⟩
  simp only at hi
  dsimp only at hf ⊢
  by_cases hil : i < l.length
  · have d1 : decide ((i : Int) < (l.length : Int)) = true := decide_eq_true (by omega)
    obtain ⟨x, hx⟩ : ∃ x, x = l.getD (i : Int).toNat default := ⟨_, rfl⟩
    have hxm : x ∈ l := by rw [hx, Int.toNat_natCast, getD_at hil]; exact List.getElem_mem _
    obtain ⟨g1, g2, g3⟩ := h8 x hxm
    have hx' : x = l.getD i default := by rw [hx, Int.toNat_natCast]
    have q1 := hf.v8
    have q2 := hf.pos
    have q3 : rl.length ≤ 1000000 := by have := hf.few; simp only at this; omega
    simp only at q1 q2
    have ct := two_r rv x.1 rl x.2 false false q1 g1 q3 g3
    rw [hx] at ct
    haveI : PC Try.prog 57 [cV rv rl false, cV (l.getD (i : Int).toNat default).1 (l.getD (i : Int).toNat default).2 false] True (.tup [.agg (cL (twoF (rv, rl) ((l.getD (i : Int).toNat default).1, (l.getD (i : Int).toNat default).2)).1.1 (twoF (rv, rl) ((l.getD (i : Int).toNat default).1, (l.getD (i : Int).toNat default).2)).1.2 false), .one (.p (.i (twoF (rv, rl) ((l.getD (i : Int).toNat default).1, (l.getD (i : Int).toNat default).2)).2))]) := ⟨fun _ => ct⟩
    by_cases he : (twoF (rv, rl) x).2 = 0
    · have hn := hf.next (by rw [← hx']; exact g1) (by rw [← hx']; exact g2) (by rw [← hx']; exact he)
      rw [← hx'] at hn
      have d2 : decide ((twoF (rv, rl) (x.1, x.2)).2 ≠ 0) = false := decide_eq_false fun q => q he
      rw [hx] at g1 g3 d2 hn
      repeat' (first
          | refine rnC ?_
          | refine rnSB ?_
          | refine rnG ?_
          | refine rnU ?_
          | ((fail_if_success (refine rnKn ?_)); refine rnP ?_ ?_ <;> (intro hq; try (have hq' := hq; simp only [hqs] at hq')))
          | refine rkC ?_
          | refine rkSB ?_
          | refine rkF ?_
          | refine rkU ?_
          | ((fail_if_success (refine rkKn ?_)); refine rkP ?_ ?_ <;> (intro hq; try (have hq' := hq; simp only [hqs] at hq')))
          | refine stp ?_
          | refine ifT ?_
          | refine ifF ?_
          | (refine ifQ ?_ ?_ <;> (try (intro hn)))
          | (refine ifB ?_ ?_ <;> (intro hq; try (have hq' := hq; simp only [hqs] at hq'))))
      refine aws_draws [(9, 6), (10, 6)] mixed (by kernel_rfl) ?_
      repeat' (first
          | refine rk_nil ?_
          | refine rkC ?_
          | refine rkSB ?_
          | refine rkF ?_
          | refine rkU ?_
          | ((fail_if_success (refine rkKn ?_)); refine rkP ?_ ?_ <;> (intro hq; try (have hq' := hq; simp only [hqs] at hq'))))
      as_aux_lemma =>
        repeat' (first
            | refine rnC ?_
            | refine rnSB ?_
            | refine rnG ?_
            | refine rnU ?_
            | ((fail_if_success (refine rnKn ?_)); refine rnP ?_ ?_ <;> (intro hq; try (have hq' := hq; simp only [hqs] at hq')))
            | refine rkC ?_
            | refine rkSB ?_
            | refine rkF ?_
            | refine rkU ?_
            | ((fail_if_success (refine rkKn ?_)); refine rkP ?_ ?_ <;> (intro hq; try (have hq' := hq; simp only [hqs] at hq')))
            | refine stp ?_
            | refine aws_draws [] mixed (by kernel_rfl) ?_
            | refine ifT ?_
            | refine ifF ?_
            | (refine ifQ ?_ ?_ <;> (try (intro hn)))
            | (refine ifB ?_ ?_ <;> (intro hq; try (have hq' := hq; simp only [hqs] at hq'))))
        exact ⟨(i + 1, (twoF (rv, rl) (l.getD (i : Int).toNat default)).1, _), _, by dsimp only; omega, ⟨by dsimp only; omega, hn⟩, .refl, by exact frA⟩
    · have d2 : decide ((twoF (rv, rl) (x.1, x.2)).2 ≠ 0) = true := decide_eq_true he
      have e := hf.fail hil (by rw [← hx']; exact he)
      rw [← hx', hx] at e
      rw [hx] at g1 g3 d2
      rw [e]
      repeat' (first
          | refine rnC ?_
          | refine rnSB ?_
          | refine rnG ?_
          | refine rnU ?_
          | ((fail_if_success (refine rnKn ?_)); refine rnP ?_ ?_ <;> (intro hq; try (have hq' := hq; simp only [hqs] at hq')))
          | refine rkC ?_
          | refine rkSB ?_
          | refine rkF ?_
          | refine rkU ?_
          | ((fail_if_success (refine rkKn ?_)); refine rkP ?_ ?_ <;> (intro hq; try (have hq' := hq; simp only [hqs] at hq')))
          | refine stp ?_
          | refine ifT ?_
          | refine ifF ?_
          | (refine ifQ ?_ ?_ <;> (try (intro hn)))
          | (refine ifB ?_ ?_ <;> (intro hq; try (have hq' := hq; simp only [hqs] at hq'))))
      refine aws_draws [(9, 6), (10, 6)] mixed (by kernel_rfl) ?_
      repeat' (first
          | refine rk_nil ?_
          | refine rkC ?_
          | refine rkSB ?_
          | refine rkF ?_
          | refine rkU ?_
          | ((fail_if_success (refine rkKn ?_)); refine rkP ?_ ?_ <;> (intro hq; try (have hq' := hq; simp only [hqs] at hq'))))
      as_aux_lemma =>
        repeat' (first
            | refine rnC ?_
            | refine rnSB ?_
            | refine rnG ?_
            | refine rnU ?_
            | ((fail_if_success (refine rnKn ?_)); refine rnP ?_ ?_ <;> (intro hq; try (have hq' := hq; simp only [hqs] at hq')))
            | refine rkC ?_
            | refine rkSB ?_
            | refine rkF ?_
            | refine rkU ?_
            | ((fail_if_success (refine rkKn ?_)); refine rkP ?_ ?_ <;> (intro hq; try (have hq' := hq; simp only [hqs] at hq')))
            | refine stp ?_
            | refine aws_draws [] mixed (by kernel_rfl) ?_
            | refine ifT ?_
            | refine ifF ?_
            | (refine ifQ ?_ ?_ <;> (try (intro hn)))
            | (refine ifB ?_ ?_ <;> (intro hq; try (have hq' := hq; simp only [hqs] at hq'))))
        exact rc2 rfl rfl rfl rfl rfl rfl fin9 rfl finS_p rfl
  · have d1 : decide ((i : Int) < (l.length : Int)) = false := decide_eq_false (by omega)
    obtain rfl : i = l.length := by omega
    rw [hf.is]
    as_aux_lemma =>
      repeat' (first
          | refine rnC ?_
          | refine rnSB ?_
          | refine rnG ?_
          | refine rnU ?_
          | ((fail_if_success (refine rnKn ?_)); refine rnP ?_ ?_ <;> (intro hq; try (have hq' := hq; simp only [hqs] at hq')))
          | refine rkC ?_
          | refine rkSB ?_
          | refine rkF ?_
          | refine rkU ?_
          | ((fail_if_success (refine rkKn ?_)); refine rkP ?_ ?_ <;> (intro hq; try (have hq' := hq; simp only [hqs] at hq')))
          | refine stp ?_
          | refine aws_draws [] mixed (by kernel_rfl) ?_
          | refine ifT ?_
          | refine ifF ?_
          | (refine ifQ ?_ ?_ <;> (try (intro hn)))
          | (refine ifB ?_ ?_ <;> (intro hq; try (have hq' := hq; simp only [hqs] at hq'))))
      exact rc2 rfl rfl rfl rfl rfl rfl finL_p rfl finS_p rfl
end Go.Proofs.Ytpmobjnaiaogbaa.Cs
