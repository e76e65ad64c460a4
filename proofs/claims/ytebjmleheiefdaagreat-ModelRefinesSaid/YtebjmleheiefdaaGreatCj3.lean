/- joins: of two carts, of any many -/
import Derived.Test.YtebjmleheiefdaaGreatCj2
import Derived.Test.YtebjmleheiefdaaGreatCj4
namespace Go.Proofs.YtebjmleheiefdaaGreat.Ca
open Go Go.RowKit Go.Aw Go.Aw.Cart Go.Aw.Ord Go.Sort
set_option linter.unusedVariables false
set_option linter.unusedSimpArgs false
set_option maxRecDepth 8000
set_option maxHeartbeats 4000000
theorem ro_k1 {ops : Array Oper} {W : List (Nat × Nat)} {i c : Nat} {m : Nat × Option MO} (h : okObj ops W i c = true) : ∀ x, kIn [(c, m)] x = true → okObj ops W i x = true := fun x hx => by
  simp only [kIn, Bool.or_false] at hx
  rw [Nat.eq_of_beq_eq_true hx]; exact h
theorem map_of {row : List PVal} {ds : List AC} (h : All2 (fun (p : PVal) (c : AC) => AC.p p = c) row ds) : row.map AC.p = ds := by
  refine List.ext_getElem (by simp [h.1]) fun i h1 h2 => ?_
  have h3 : i < row.length := by simpa using h1
  have := h.2 i row[i] ds[i] (by simp [h3]) (by simp [h2])
  simpa using this
theorem lop_ld_atn {C : Ctx} {o : Oper} {σ : St} {T : TypeId} {x : Operand} {k : TK} {sz by_ : Nat} {row : List PVal} {ds : List AC} (ho : o.op = .load T x) (hT : TI C.P T k sz by_) (hx : σ.look x = .p (.at_ row)) (hk : k.agg = true) (h0 : 0 < sz) (hs : row.length = sz) (hds : All2 (fun (p : PVal) (c : AC) => AC.p p = c) row ds) (hd : dOk C o.dst = true) : LOp C o σ ⟨.a ds, []⟩ (fun _ => false) := by
  subst hs
  have := lop_load_at (o := o) ho hx hk h0 (by simp) hd
  rw [List.take_length, map_of hds] at this
  exact this
/-- as lop_bsa, the rows written out -/
theorem lop_bsb {C : Ctx} {o : Oper} {σ : St} {T e : TypeId} {n : Nat} {parts : Array (Nat × Operand)} {sz by_ : Nat} {ke : TK} {sze be : Nat} {z : List Value} {ps : List (Nat × List PVal)} {rows : List (List PVal)} (ho : o.op = .buildSlice T n parts) (hT : TI C.P T (.slice e) sz by_) (he : TI C.P e ke sze be) (hz : TZ C.P e z)
    (hp : All2 (fun (x : Nat × Operand) (p : Nat × List PVal) => x.1 = p.1 ∧ p.2.length = sze ∧ ∃ s, σ.look x.2 = .s s ∧ s.cells = p.2.map .p) parts.toList ps)
    (hi : ps.map (·.1) = List.range n) (hz0 : 0 < sze) (hsmall : n * sze ≤ 2 ^ 24) (hr : All2 (fun (p : Nat × List PVal) (r : List PVal) => p.2 = r) ps rows) (hd : dOk C o.dst = true) : LOp C o σ ⟨.p (.sl sze rows true), []⟩ (fun _ => false) := by
  refine lop_bsa ho hT he hz hp hi hz0 hsmall ?_ hd
  refine List.ext_getElem (by simp [rowsOf, hr.1]) fun i h1 h2 => ?_
  have h3 : i < ps.length := by simpa [rowsOf] using h1
  have := hr.2 i ps[i] rows[i] (by simp [h3]) (by simp [h2])
  simpa [rowsOf] using this
namespace J3
theorem lopC {C : Ctx} {o : Oper} {σ : St} {e : Eff} {ro : Nat → Bool} (h : LOp C o σ e ro := by
    first
      | (apply lop_bsb; (focus rfl); (focus exact inferInstance); (focus exact inferInstance); (focus exact inferInstance); (focus repeat' (first | exact All2.nil | (apply bs_cons; (focus rfl); (focus rfl); (focus rfl)))); (focus rfl); (focus decide); (focus first | decide | omega); (focus repeat' (first | exact All2.nil | (apply All2.cons; (focus rfl)))); (focus rfl))
      | (apply gField; (focus rfl); first | exact lop_fieldAddr_p rfl rfl (by decide) rfl rfl | exact lop_fieldAddr_bx rfl rfl (by decide) rfl rfl)
            | (apply lop_bsa; (focus rfl); (focus exact inferInstance); (focus exact inferInstance); (focus exact inferInstance); (focus repeat' (first | exact All2.nil | (apply bs_cons; (focus rfl); (focus rfl); (focus rfl)))); (focus rfl); (focus decide); (focus first | decide | omega); (focus rfl); (focus rfl))
            | (apply lop_mfa1; (focus rfl); (focus rfl); (focus rfl); (focus rfl); (focus rfl); (focus rfl))
            | (apply lop_mfa2; (focus rfl); (focus rfl); (focus rfl); (focus rfl); (focus rfl); (focus rfl); (focus rfl); (focus rfl); (focus rfl); (focus decide); (focus rfl))
            | (apply lop_mfa3; (focus rfl); (focus rfl); (focus rfl); (focus rfl); (focus rfl); (focus rfl); (focus rfl); (focus rfl); (focus rfl); (focus rfl); (focus rfl); (focus rfl); (focus rfl); (focus decide); (focus decide); (focus decide); (focus rfl))
            | (apply gLoad; (focus rfl); apply lop_ld_bxp; (focus rfl); (focus exact inferInstance); (focus rfl); (focus rfl); (focus rfl); (focus rfl); (focus rfl))
      | (apply gLoad; (focus rfl); apply lop_ld_atn; (focus rfl); (focus exact inferInstance); (focus rfl); (focus rfl); (focus decide); (focus rfl); (focus repeat' (first | exact All2.nil | (apply All2.cons; (focus rfl)))); (focus rfl))
      | exact lopV
      | (apply lop_call1; (focus rfl); (focus exact inferInstance); (focus exact lk_cart rfl); (focus exact inferInstance); (focus exact inferInstance); (focus first | exact True.intro | assumption | rfl | omega | ((repeat' (first | assumption | refine And.intro ?_ ?_ | omega | rfl)); done) | fail); (focus rfl))
            | (apply lop_call2; (focus rfl); (focus exact inferInstance); (focus exact lk_cart rfl); (focus exact lk_cart rfl); (focus exact inferInstance); (focus exact inferInstance); (focus first | exact True.intro | assumption | rfl | omega | ((repeat' (first | assumption | refine And.intro ?_ ?_ | omega | rfl)); done) | fail); (focus rfl))
            | (apply lop_call2; (focus rfl); (focus exact inferInstance); (focus exact lk_cart rfl); (focus first | exact lk_m1 rfl | exact lk_m2 rfl | exact lk_m3 rfl | exact lk_o rfl | exact lk_a2 rfl | exact lk_a3 rfl | exact lk_a4 rfl | exact lk_a1 rfl | exact lk_a5 rfl | exact lk_a6 rfl | exact lk_a7 rfl | exact lk_a8 rfl | exact lk_a rfl); (focus exact inferInstance); (focus exact inferInstance); (focus first | exact True.intro | assumption | rfl | omega | ((repeat' (first | assumption | refine And.intro ?_ ?_ | omega | rfl)); done) | fail); (focus rfl))
      | fail) : LOp C o σ e ro := h
section steps
variable {C : Ctx} {ops : Array Oper} {o : Oper} {rest : List Oper} {K : St → Prop} {σ : St} {e : Eff} {ro : Nat → Bool} {W : List (Nat × Nat)} {i : Nat}
theorem rnC {d : Nat} (hk : RunN C ops rest K (e.app (some d) σ)) (hg : Guard ops σ o true := by first | exact gd_n rfl rfl | exact gd_t rfl rfl rfl rfl | exact gd_t rfl rfl rfl (by assumption)) (hd : o.dst = some d := by rfl) (h : LOp C o σ e ro := by exact lopC) : RunN C ops (o :: rest) K σ := rn_any hg hd h hk
theorem rkC {d : Nat} (hk : RunK C ops W (i + 1) rest K (e.app (some d) σ)) (hg : Guard ops σ o true := by first | exact gd_n rfl rfl | exact gd_t rfl rfl rfl rfl | exact gd_t rfl rfl rfl (by assumption)) (hd' : o.dst = some d := by rfl) (hd : dOk C o.dst = true := by rfl) (h : LOp C o σ e ro := by exact lopC)
    (hro : ∀ x, ro x = true → okObj ops W i x = true := by first | exact fun _ => ro_none | exact ro_one rfl | exact ro_k1 rfl | exact ro_one (by kernel_rfl) | exact ro_k1 (by kernel_rfl) | exact ro_kIn (by decide)) (hob : ∀ p ∈ e.obj, (i, p.1) ∈ W := by first | exact ob_none | exact ob_one (by decide) | decide) : RunK C ops W i (o :: rest) K σ := rk_wr hg hd' hd h hro hob hk
end steps
end J3
open J3
theorem fin9 {σ : St} {K : Nat → Bool} {p0 p1 p2 p3 p4 p5 p6 p7 : PVal} : All2 (FinC σ K) [.p p0, .p p1, .p p2, .p p3, .p p4, .p p5, .p p6, .p p7, .p (.v (.slice none 0 0))] [.p p0, .p p1, .p p2, .p p3, .p p4, .p p5, .p p6, .p p7, .p (.sl 4 (([] : List Ent).map eR) false)] :=
  .cons .p (.cons .p (.cons .p (.cons .p (.cons .p (.cons .p (.cons .p (.cons .p (.cons .nil .nil))))))))
theorem stays_len (a b : Crt) (both : Bool) : (staysF a b both).length ≤ a.2.length := List.length_filter_le _ _
theorem two_w (v w : List Int) (l m : List Ent) (ex ey : Bool) (hv : v.length = 8) (hw : w.length = 8) (h0 : ∀ n ∈ v, 0 ≤ n) (hl : l.length ≤ 100000000) (hm : m.length ≤ 100000000) : PCall Tryz.prog 31 [cV v l ex, cV w m ey] (.tup [.agg (cL (twoF (v, l) (w, m)).1.1 (twoF (v, l) (w, m)).1.2 false), .one (.p (.i (twoF (v, l) (w, m)).2))]) := by
  refine pcall_of Tryz.func31 rfl (fun w0 F S0 M0 => ?_)
  have hl2 : l.length ≤ 1000000000 := by omega
  have hm2 : m.length ≤ 1000000000 := by omega
  have s1 := stays_len (v, l) (w, m) true
  have s2 := stays_len (w, m) (v, l) false
  simp only at s1 s2
  cases hr : rightF v l with
  | false =>
    have d1 : (!rightF v l) = true := by rw [hr]; rfl
    have e : twoF (v, l) (w, m) = ((zeroV, []), 3) := by unfold twoF; rw [if_pos (.inl hr)]
    rw [e]
    as_aux_lemma =>
      repeat' (first
          | refine rnC ?_
          | refine rnSB ?_
          | refine rnG ?_
          | refine rnU ?_
          | ((fail_if_success (refine rnKn ?_)); refine rnP ?_ ?_ <;> (intro hq; try (have hq' := hq; simp only [hqs] at hq')))
          | refine rkC ?_
          | refine rkSB ?_
          | refine rkF ?_
          | refine rkU ?_
          | ((fail_if_success (refine rkKn ?_)); refine rkP ?_ ?_ <;> (intro hq; try (have hq' := hq; simp only [hqs] at hq')))
          | refine stp ?_
          | refine aws_draws [] mixed (by kernel_rfl) ?_
          | refine ifT ?_
          | refine ifF ?_
          | (refine ifQ ?_ ?_ <;> (try (intro hn)))
          | (refine ifB ?_ ?_ <;> (intro hq; try (have hq' := hq; simp only [hqs] at hq'))))
      exact rc2 rfl rfl rfl rfl rfl rfl fin9 rfl finS_p rfl
  | true =>
    have d1 : (!rightF v l) = false := by rw [hr]; rfl
    cases hs : rightF w m with
    | false =>
      have d2 : (!rightF w m) = true := by rw [hs]; rfl
      have e : twoF (v, l) (w, m) = ((zeroV, []), 3) := by unfold twoF; rw [if_pos (.inr hs)]
      rw [e]
      as_aux_lemma =>
        repeat' (first
            | refine rnC ?_
            | refine rnSB ?_
            | refine rnG ?_
            | refine rnU ?_
            | ((fail_if_success (refine rnKn ?_)); refine rnP ?_ ?_ <;> (intro hq; try (have hq' := hq; simp only [hqs] at hq')))
            | refine rkC ?_
            | refine rkSB ?_
            | refine rkF ?_
            | refine rkU ?_
            | ((fail_if_success (refine rkKn ?_)); refine rkP ?_ ?_ <;> (intro hq; try (have hq' := hq; simp only [hqs] at hq')))
            | refine stp ?_
            | refine aws_draws [] mixed (by kernel_rfl) ?_
            | refine ifT ?_
            | refine ifF ?_
            | (refine ifQ ?_ ?_ <;> (try (intro hn)))
            | (refine ifB ?_ ?_ <;> (intro hq; try (have hq' := hq; simp only [hqs] at hq'))))
        exact rc2 rfl rfl rfl rfl rfl rfl fin9 rfl finS_p rfl
    | true =>
      have d2 : (!rightF w m) = false := by rw [hs]; rfl
      cases hc : clashF (v, l) (w, m) with
      | true =>
        have e : twoF (v, l) (w, m) = ((zeroV, []), 14) := by unfold twoF; rw [if_neg (by simp [hr, hs]), if_pos hc]
        rw [e]
        as_aux_lemma =>
          repeat' (first
              | refine rnC ?_
              | refine rnSB ?_
              | refine rnG ?_
              | refine rnU ?_
              | ((fail_if_success (refine rnKn ?_)); refine rnP ?_ ?_ <;> (intro hq; try (have hq' := hq; simp only [hqs] at hq')))
              | refine rkC ?_
              | refine rkSB ?_
              | refine rkF ?_
              | refine rkU ?_
              | ((fail_if_success (refine rkKn ?_)); refine rkP ?_ ?_ <;> (intro hq; try (have hq' := hq; simp only [hqs] at hq')))
              | refine stp ?_
              | refine aws_draws [] mixed (by kernel_rfl) ?_
              | refine ifT ?_
              | refine ifF ?_
              | (refine ifQ ?_ ?_ <;> (try (intro hn)))
              | (refine ifB ?_ ?_ <;> (intro hq; try (have hq' := hq; simp only [hqs] at hq'))))
          exact rc2 rfl rfl rfl rfl rfl rfl fin9 rfl finS_p rfl
      | false =>
        by_cases h4 : 400 < (staysF (v, l) (w, m) true ++ staysF (w, m) (v, l) false).length
        · have d3 : decide (400 < (((staysF (v, l) (w, m) true ++ staysF (w, m) (v, l) false).length : Nat) : Int)) = true := decide_eq_true (by omega)
          have e : twoF (v, l) (w, m) = ((zeroV, []), 5) := by unfold twoF; rw [if_neg (by simp [hr, hs]), if_neg (by simp [hc]), if_pos (show 400 < (bothF (v, l) (w, m)).length from h4)]
          rw [e]
          repeat' (first
              | refine rnC ?_
              | refine rnSB ?_
              | refine rnG ?_
              | refine rnU ?_
              | ((fail_if_success (refine rnKn ?_)); refine rnP ?_ ?_ <;> (intro hq; try (have hq' := hq; simp only [hqs] at hq')))
              | refine rkC ?_
              | refine rkSB ?_
              | refine rkF ?_
              | refine rkU ?_
              | ((fail_if_success (refine rkKn ?_)); refine rkP ?_ ?_ <;> (intro hq; try (have hq' := hq; simp only [hqs] at hq')))
              | refine stp ?_
              | refine ifT ?_
              | refine ifF ?_
              | (refine ifQ ?_ ?_ <;> (try (intro hn)))
              | (refine ifB ?_ ?_ <;> (intro hq; try (have hq' := hq; simp only [hqs] at hq'))))
          refine aws_draws [(3, 25), (7, 25)] mixed (by kernel_rfl) ?_
          repeat' (first
              | refine rk_nil ?_
              | refine rkC ?_
              | refine rkSB ?_
              | refine rkF ?_
              | refine rkU ?_
              | ((fail_if_success (refine rkKn ?_)); refine rkP ?_ ?_ <;> (intro hq; try (have hq' := hq; simp only [hqs] at hq'))))
          as_aux_lemma =>
            repeat' (first
                | refine rnC ?_
                | refine rnSB ?_
                | refine rnG ?_
                | refine rnU ?_
                | ((fail_if_success (refine rnKn ?_)); refine rnP ?_ ?_ <;> (intro hq; try (have hq' := hq; simp only [hqs] at hq')))
                | refine rkC ?_
                | refine rkSB ?_
                | refine rkF ?_
                | refine rkU ?_
                | ((fail_if_success (refine rkKn ?_)); refine rkP ?_ ?_ <;> (intro hq; try (have hq' := hq; simp only [hqs] at hq')))
                | refine stp ?_
                | refine aws_draws [] mixed (by kernel_rfl) ?_
                | refine ifT ?_
                | refine ifF ?_
                | (refine ifQ ?_ ?_ <;> (try (intro hn)))
                | (refine ifB ?_ ?_ <;> (intro hq; try (have hq' := hq; simp only [hqs] at hq'))))
            exact rc2 rfl rfl rfl rfl rfl rfl fin9 rfl finS_p rfl
        · have d3 : decide (400 < (((staysF (v, l) (w, m) true ++ staysF (w, m) (v, l) false).length : Nat) : Int)) = false := decide_eq_false (by omega)
          have e : twoF (v, l) (w, m) = ((maxV v w, sortE (staysF (v, l) (w, m) true ++ staysF (w, m) (v, l) false)), 0) := by unfold twoF; rw [if_neg (by simp [hr, hs]), if_neg (by simp [hc]), if_neg (show ¬ 400 < (bothF (v, l) (w, m)).length from h4)]; rfl
          rw [e]
          have hbl : (staysF (v, l) (w, m) true ++ staysF (w, m) (v, l) false).length ≤ 1000000000 := by omega
          repeat' (first
              | refine rnC ?_
              | refine rnSB ?_
              | refine rnG ?_
              | refine rnU ?_
              | ((fail_if_success (refine rnKn ?_)); refine rnP ?_ ?_ <;> (intro hq; try (have hq' := hq; simp only [hqs] at hq')))
              | refine rkC ?_
              | refine rkSB ?_
              | refine rkF ?_
              | refine rkU ?_
              | ((fail_if_success (refine rkKn ?_)); refine rkP ?_ ?_ <;> (intro hq; try (have hq' := hq; simp only [hqs] at hq')))
              | refine stp ?_
              | refine ifT ?_
              | refine ifF ?_
              | (refine ifQ ?_ ?_ <;> (try (intro hn)))
              | (refine ifB ?_ ?_ <;> (intro hq; try (have hq' := hq; simp only [hqs] at hq'))))
          refine aws_draws [(3, 25), (7, 25)] mixed (by kernel_rfl) ?_
          repeat' (first
              | refine rk_nil ?_
              | refine rkC ?_
              | refine rkSB ?_
              | refine rkF ?_
              | refine rkU ?_
              | ((fail_if_success (refine rkKn ?_)); refine rkP ?_ ?_ <;> (intro hq; try (have hq' := hq; simp only [hqs] at hq'))))
          repeat' (first
              | refine rnC ?_
              | refine rnSB ?_
              | refine rnG ?_
              | refine rnU ?_
              | ((fail_if_success (refine rnKn ?_)); refine rnP ?_ ?_ <;> (intro hq; try (have hq' := hq; simp only [hqs] at hq')))
              | refine rkC ?_
              | refine rkSB ?_
              | refine rkF ?_
              | refine rkU ?_
              | ((fail_if_success (refine rkKn ?_)); refine rkP ?_ ?_ <;> (intro hq; try (have hq' := hq; simp only [hqs] at hq')))
              | refine stp ?_
              | refine aws_draws [] mixed (by kernel_rfl) ?_
              | refine ifT ?_
              | refine ifF ?_
              | (refine ifQ ?_ ?_ <;> (try (intro hn)))
              | (refine ifB ?_ ?_ <;> (intro hq; try (have hq' := hq; simp only [hqs] at hq'))))
          refine rn_says (says_frz (t := 40) (o := 25) rfl rfl rfl (by simp)) rfl ?_
          as_aux_lemma =>
            repeat' (first
                | refine rnC ?_
                | refine rnSB ?_
                | refine rnG ?_
                | refine rnU ?_
                | ((fail_if_success (refine rnKn ?_)); refine rnP ?_ ?_ <;> (intro hq; try (have hq' := hq; simp only [hqs] at hq')))
                | refine rkC ?_
                | refine rkSB ?_
                | refine rkF ?_
                | refine rkU ?_
                | ((fail_if_success (refine rkKn ?_)); refine rkP ?_ ?_ <;> (intro hq; try (have hq' := hq; simp only [hqs] at hq')))
                | refine stp ?_
                | refine aws_draws [] mixed (by kernel_rfl) ?_
                | refine ifT ?_
                | refine ifF ?_
                | (refine ifQ ?_ ?_ <;> (try (intro hn)))
                | (refine ifB ?_ ?_ <;> (intro hq; try (have hq' := hq; simp only [hqs] at hq'))))
            exact rc2 rfl rfl rfl rfl rfl rfl finL_p rfl finS_p rfl
theorem two_len8 {a b : Crt} (ha : a.1.length = 8) (hb : b.1.length = 8) : (twoF a b).1.1.length = 8 := by
  unfold twoF
  repeat' split
  all_goals first | rfl | exact maxV_len ha hb
theorem two_few {a b : Crt} : (twoF a b).1.2.length ≤ 400 := by
  unfold twoF
  split
  · simp
  · split
    · simp
    · split
      · simp
      · simp only [sortE_len]; omega
theorem two_pos {a b : Crt} (ha : ∀ n ∈ a.1, 0 ≤ n) (hb : ∀ n ∈ b.1, 0 ≤ n) : ∀ n ∈ (twoF a b).1.1, 0 ≤ n := by
  have hz : ∀ n ∈ zeroV, (0 : Int) ≤ n := by decide
  unfold twoF
  split
  · exact hz
  · split
    · exact hz
    · split
      · exact hz
      · exact max_pos ha hb
def orderF (a b : Crt) : Int := if coversF a b = true then (if coversF b a = true then 0 else 1) else (if coversF b a = true then -1 else 2)
/-! any many -/
theorem allF_err {l : List Crt} : ∀ {i j : Nat}, i ≤ j → (allF l i).2 ≠ 0 → allF l j = allF l i
  | i, 0, h, he => by rw [show i = 0 by omega]
  | i, j + 1, h, he => by
    by_cases e : i = j + 1
    · rw [e]
    · have := allF_err (i := i) (j := j) (by omega) he
      rw [allF, this, if_neg he]
/-- so far there is no error -/
structure Far (l : List Crt) (i : Nat) (r : Crt) : Prop where
  is : allF l i = (r, 0)
  v8 : r.1.length = 8
  pos : ∀ n ∈ r.1, 0 ≤ n
  few : r.2.length ≤ 400
theorem Far.zero (l : List Crt) : Far l 0 (zeroV, []) := ⟨rfl, rfl, by decide, by simp⟩
theorem Far.next {l : List Crt} {i : Nat} {r : Crt} (h : Far l i r) (h8 : (l.getD i default).1.length = 8) (hp : ∀ n ∈ (l.getD i default).1, 0 ≤ n) (he : (twoF r (l.getD i default)).2 = 0) : Far l (i + 1) (twoF r (l.getD i default)).1 where
  is := by rw [allF, h.is, if_pos rfl, if_pos he]; exact Prod.ext rfl he
  v8 := two_len8 h.v8 h8
  pos := two_pos h.pos hp
  few := two_few
theorem Far.fail {l : List Crt} {i : Nat} {r : Crt} (h : Far l i r) (hi : i < l.length) (he : (twoF r (l.getD i default)).2 ≠ 0) : allF l l.length = ((zeroV, []), (twoF r (l.getD i default)).2) := by
  have e : allF l (i + 1) = ((zeroV, []), (twoF r (l.getD i default)).2) := by rw [allF, h.is, if_pos rfl, if_neg he]
  rw [allF_err (i := i + 1) (by omega) (by rw [e]; exact he), e]
abbrev cRw (x : Crt) : List PVal := cR x.1 x.2 false
end Go.Proofs.YtebjmleheiefdaaGreat.Ca
