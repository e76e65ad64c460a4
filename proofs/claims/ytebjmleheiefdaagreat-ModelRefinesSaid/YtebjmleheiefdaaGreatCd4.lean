/- dots: within, spans, whole sets; what two lists share -/
import Derived.Test.YtebjmleheiefdaaGreatCd1
import Derived.Test.YtebjmleheiefdaaGreatCd3
import Derived.Test.YtebjmleheiefdaaGreatCe1
namespace Go.Proofs.YtebjmleheiefdaaGreat.Ca
open Go Go.RowKit Go.Aw Go.Aw.Cart
set_option linter.unusedVariables false
set_option linter.unusedSimpArgs false
set_option maxRecDepth 8000
set_option maxHeartbeats 4000000
theorem lop_ixc {C : Ctx} {o : Oper} {σ : St} {T e : TypeId} {x ix : Operand} {n : Nat} {sz by_ : Nat} {ke : TK} {sze be : Nat} {cs : List AC} {c : AC} {k : IntKind} {i : Int}
    (ho : o.op = .index T x ix) (hT : TI C.P T (.array n e) sz by_) (he : TI C.P e ke sze be) (hx : σ.look x = .a cs) (hi : σ.look ix = .p (.v (.int k i))) (h0 : 0 ≤ i) (hb : i < n) (hk : ke.agg = false) (hs : sze = 1) (hc : cs[i.toNat]? = some c) (hd : dOk C o.dst = true) :
    LOp C o σ ⟨.o c, []⟩ (fun _ => false) := lop_index_arr1 (o := o) ho hx hi ⟨h0, hb⟩ hk hs hc hd
namespace D4
theorem lopC {C : Ctx} {o : Oper} {σ : St} {e : Eff} {ro : Nat → Bool} (h : LOp C o σ e ro := by
    first
      | (apply lop_ixc; (focus rfl); (focus exact inferInstance); (focus exact inferInstance); (focus rfl); (focus rfl); (focus omega); (focus omega); (focus rfl); (focus rfl); (focus rfl); (focus rfl))
      | (apply lop_build_ar; (focus rfl); (focus exact inferInstance); (focus exact inferInstance); (focus exact inferInstance); (focus repeat' (first | exact All2.nil | apply bp_cons rfl)); (focus decide); (focus exact sn2 rfl); (focus rfl))
      | (apply gField; (focus rfl); first | exact lop_fieldAddr_p rfl rfl (by decide) rfl rfl | exact lop_fieldAddr_bx rfl rfl (by decide) rfl rfl)
            | (apply lop_bsa; (focus rfl); (focus exact inferInstance); (focus exact inferInstance); (focus exact inferInstance); (focus repeat' (first | exact All2.nil | (apply bs_cons; (focus rfl); (focus rfl); (focus rfl)))); (focus rfl); (focus decide); (focus first | decide | omega); (focus rfl); (focus rfl))
            | (apply lop_mfa1; (focus rfl); (focus rfl); (focus rfl); (focus rfl); (focus rfl); (focus rfl))
            | (apply lop_mfa2; (focus rfl); (focus rfl); (focus rfl); (focus rfl); (focus rfl); (focus rfl); (focus rfl); (focus rfl); (focus rfl); (focus decide); (focus rfl))
            | (apply lop_mfa3; (focus rfl); (focus rfl); (focus rfl); (focus rfl); (focus rfl); (focus rfl); (focus rfl); (focus rfl); (focus rfl); (focus rfl); (focus rfl); (focus rfl); (focus rfl); (focus decide); (focus decide); (focus decide); (focus rfl))
            | (apply gLoad; (focus rfl); apply lop_ld_bxp; (focus rfl); (focus exact inferInstance); (focus rfl); (focus rfl); (focus rfl); (focus rfl); (focus rfl))
      | exact lopV
      | (apply lop_call2; (focus rfl); (focus exact inferInstance); (focus first | exact lk_v8 (by assumption) rfl | exact lk_v8l rfl); (focus first | exact lk_v8 (by assumption) rfl | exact lk_v8l rfl); (focus exact inferInstance); (focus exact inferInstance); (focus first | exact True.intro | assumption | rfl | omega | ((repeat' (first | assumption | refine And.intro ?_ ?_ | omega | rfl)); done) | fail); (focus rfl))
      | fail) : LOp C o σ e ro := h
section steps
variable {C : Ctx} {ops : Array Oper} {o : Oper} {rest : List Oper} {K : St → Prop} {σ : St} {e : Eff} {ro : Nat → Bool} {W : List (Nat × Nat)} {i : Nat}
theorem rnC {d : Nat} (hk : RunN C ops rest K (e.app (some d) σ)) (hg : Guard ops σ o true := by first | exact gd_n rfl rfl | exact gd_t rfl rfl rfl rfl | exact gd_t rfl rfl rfl (by assumption)) (hd : o.dst = some d := by rfl) (h : LOp C o σ e ro := by exact lopC) : RunN C ops (o :: rest) K σ := rn_any hg hd h hk
theorem rkC {d : Nat} (hk : RunK C ops W (i + 1) rest K (e.app (some d) σ)) (hg : Guard ops σ o true := by first | exact gd_n rfl rfl | exact gd_t rfl rfl rfl rfl | exact gd_t rfl rfl rfl (by assumption)) (hd' : o.dst = some d := by rfl) (hd : dOk C o.dst = true := by rfl) (h : LOp C o σ e ro := by exact lopC)
    (hro : ∀ x, ro x = true → okObj ops W i x = true := by first | exact fun _ => ro_none | exact ro_one rfl | exact ro_k1 rfl | exact ro_one (by kernel_rfl) | exact ro_k1 (by kernel_rfl) | exact ro_kIn (by decide)) (hob : ∀ p ∈ e.obj, (i, p.1) ∈ W := by first | exact ob_none | exact ob_one (by decide) | decide) : RunK C ops W i (o :: rest) K σ := rk_wr hg hd' hd h hro hob hk
end steps
end D4
open D4
/-- the least vector that covers all dots that may be -/
def spanTo (l : List Dot) : Nat → List Int
  | 0 => zeroV
  | i + 1 => if dotF (l.getD i default) = true then withF (spanTo l i) (l.getD i default) else spanTo l i
theorem spanTo_len (l : List Dot) : ∀ i, (spanTo l i).length = 8
  | 0 => rfl
  | i + 1 => by
    rw [spanTo]
    split
    · rw [withF_len]; exact spanTo_len l i
    · exact spanTo_len l i
theorem span_w (l : List Dot) (ex : Bool) (h : l.length ≤ 1000000000) : PCall Tryz.prog 73 [.p (.sl 2 (l.map dR) ex)] (.a (v8L (spanTo l l.length))) := by
  refine pcall_of Tryz.func73 rfl (fun w0 F S0 M0 => ?_)
  repeat' (first
      | refine rnC ?_
      | refine rnSB ?_
      | refine rnG ?_
      | refine rnU ?_
      | ((fail_if_success (refine rnKn ?_)); refine rnP ?_ ?_ <;> (intro hq; try (have hq' := hq; simp only [hqs] at hq')))
      | refine rkC ?_
      | refine rkSB ?_
      | refine rkF ?_
      | refine rkU ?_
      | ((fail_if_success (refine rkKn ?_)); refine rkP ?_ ?_ <;> (intro hq; try (have hq' := hq; simp only [hqs] at hq')))
      | refine stp ?_
      | refine ifT ?_
      | refine ifF ?_
      | (refine ifQ ?_ ?_ <;> (try (intro hn)))
      | (refine ifB ?_ ?_ <;> (intro hq; try (have hq' := hq; simp only [hqs] at hq'))))
  refine aws_loopS [5, 8, 9, 10, 11, 12, 13, 14, 15, 16, 17] [3, 5] (fun (x : Nat × List Int × Option MO) => [(8, .p (.i x.1))]) (fun x => [(3, (1, some (.box 59 (v8L x.2.1)))), (5, (x.1, x.2.2))])
    (fun x => x.1 ≤ l.length ∧ x.2.1 = spanTo l x.1) (fun x => l.length - x.1) (0, zeroV, none) ⟨Nat.zero_le _, rfl⟩ (by exact knA) (by exact knA) ?_
  rintro ⟨i, v, c5⟩ β γ ⟨hi, hx⟩
  simp only at hi hx
  dsimp only
  have hv8 : v.length = 8 := by rw [hx]; exact spanTo_len l i
  by_cases hil : i < l.length
  · have hlt : decide ((i : Int) < (l.length : Int)) = true := decide_eq_true (by omega)
    have ei : (i : Int).toNat = i := Int.toNat_natCast i
    cases hd : dotF (l.getD (i : Int).toNat default) with
    | true =>
      as_aux_lemma =>
        repeat' (first
            | refine rnC ?_
            | refine rnSB ?_
            | refine rnG ?_
            | refine rnU ?_
            | ((fail_if_success (refine rnKn ?_)); refine rnP ?_ ?_ <;> (intro hq; try (have hq' := hq; simp only [hqs] at hq')))
            | refine rkC ?_
            | refine rkSB ?_
            | refine rkF ?_
            | refine rkU ?_
            | ((fail_if_success (refine rkKn ?_)); refine rkP ?_ ?_ <;> (intro hq; try (have hq' := hq; simp only [hqs] at hq')))
            | refine stp ?_
            | refine ifT ?_
            | refine ifF ?_
            | (refine ifQ ?_ ?_ <;> (try (intro hn)))
            | (refine ifB ?_ ?_ <;> (intro hq; try (have hq' := hq; simp only [hqs] at hq'))))
        refine ⟨(i + 1, withF v (l.getD (i : Int).toNat default), some (.box 74 (dL (l.getD (i : Int).toNat default)))), _, by dsimp only; omega, ⟨by dsimp only; omega, ?_⟩, .refl, by exact frA⟩
        dsimp only
        rw [ei] at hd ⊢
        rw [spanTo, if_pos hd, hx]
    | false =>
      as_aux_lemma =>
        repeat' (first
            | refine rnC ?_
            | refine rnSB ?_
            | refine rnG ?_
            | refine rnU ?_
            | ((fail_if_success (refine rnKn ?_)); refine rnP ?_ ?_ <;> (intro hq; try (have hq' := hq; simp only [hqs] at hq')))
            | refine rkC ?_
            | refine rkSB ?_
            | refine rkF ?_
            | refine rkU ?_
            | ((fail_if_success (refine rkKn ?_)); refine rkP ?_ ?_ <;> (intro hq; try (have hq' := hq; simp only [hqs] at hq')))
            | refine stp ?_
            | refine ifT ?_
            | refine ifF ?_
            | (refine ifQ ?_ ?_ <;> (try (intro hn)))
            | (refine ifB ?_ ?_ <;> (intro hq; try (have hq' := hq; simp only [hqs] at hq'))))
        refine ⟨(i + 1, v, some (.box 74 (dL (l.getD (i : Int).toNat default)))), _, by dsimp only; omega, ⟨by dsimp only; omega, ?_⟩, .refl, by exact frA⟩
        dsimp only
        rw [ei] at hd
        rw [spanTo, if_neg (by rw [hd]; simp), hx]
  · have hlt : decide ((i : Int) < (l.length : Int)) = false := decide_eq_false (by omega)
    obtain rfl : i = l.length := by omega
    rw [← hx]
    as_aux_lemma =>
      repeat' (first
          | refine rnC ?_
          | refine rnSB ?_
          | refine rnG ?_
          | refine rnU ?_
          | ((fail_if_success (refine rnKn ?_)); refine rnP ?_ ?_ <;> (intro hq; try (have hq' := hq; simp only [hqs] at hq')))
          | refine rkC ?_
          | refine rkSB ?_
          | refine rkF ?_
          | refine rkU ?_
          | ((fail_if_success (refine rkKn ?_)); refine rkP ?_ ?_ <;> (intro hq; try (have hq' := hq; simp only [hqs] at hq')))
          | refine stp ?_
          | refine ifT ?_
          | refine ifF ?_
          | (refine ifQ ?_ ?_ <;> (try (intro hn)))
          | (refine ifB ?_ ?_ <;> (intro hq; try (have hq' := hq; simp only [hqs] at hq'))))
      exact rc1 rfl rfl rfl rfl rfl rfl finL_p rfl
instance span_i {l : List Dot} {ex : Bool} : PC Tryz.prog 73 [.p (.sl 2 (l.map dR) ex)] (l.length ≤ 1000000000) (.a (v8L (spanTo l l.length))) := ⟨span_w l ex⟩
/-! whole sets -/
/-- the dot that must stand there -/
def wOk (l : List Dot) (i : Nat) : Prop := nextF (spanTo l i) (l.getD i default).1 = (l.getD i default, 0)
instance wok_dec {l : List Dot} {i : Nat} : Decidable (wOk l i) := by unfold wOk; infer_instance
def wTo (l : List Dot) (k : Nat) : Nat → Bool
  | 0 => true
  | n + 1 => decide (wOk l k) && wTo l (k + 1) n
def wholeF (l : List Dot) : Bool := wTo l 0 l.length && dRightF l
theorem next_dot {v : List Int} {d : Dot} (h : nextF v d.1 = (d, 0)) (hv : ∀ n ∈ v, 0 ≤ n ∧ n < 18446744073709551616) : dotF d = true := by
  unfold nextF at h
  split at h
  · cases h
  · rename_i hn
    split at h
    · cases h
    · have h1 := (Prod.mk.inj h).1
      have hn' : nodeF d.1 = true := by cases q : nodeF d.1 <;> simp_all
      have h2 := of_decide_eq_true hn'
      have h3 : d.2 = getF v d.1 + 1 := by rw [← h1]
      have h4 := (getF_in hv d.1).1
      exact decide_eq_true ⟨h2.1, h2.2, by omega⟩
theorem whole_w (l : List Dot) (ex : Bool) (h : l.length ≤ 1000000000) (hb : ∀ d ∈ l, d.2 < 18446744073709551616) : PCall Tryz.prog 113 [.p (.sl 2 (l.map dR) ex)] (.p (.b (wholeF l))) := by
  refine pcall_of Tryz.func113 rfl (fun w0 F S0 M0 => ?_)
  unfold wholeF
  obtain ⟨A, hA⟩ : ∃ A, A = wTo l 0 l.length := ⟨_, rfl⟩
  rw [← hA]
  repeat' (first
      | refine rnC ?_
      | refine rnSB ?_
      | refine rnG ?_
      | refine rnU ?_
      | ((fail_if_success (refine rnKn ?_)); refine rnP ?_ ?_ <;> (intro hq; try (have hq' := hq; simp only [hqs] at hq')))
      | refine rkC ?_
      | refine rkSB ?_
      | refine rkF ?_
      | refine rkU ?_
      | ((fail_if_success (refine rkKn ?_)); refine rkP ?_ ?_ <;> (intro hq; try (have hq' := hq; simp only [hqs] at hq')))
      | refine stp ?_
      | refine ifT ?_
      | refine ifF ?_
      | (refine ifQ ?_ ?_ <;> (try (intro hn)))
      | (refine ifB ?_ ?_ <;> (intro hq; try (have hq' := hq; simp only [hqs] at hq'))))
  refine aws_loopS [2, 5, 6, 7, 10, 11, 12, 13, 14, 15, 16, 17, 18, 19, 20, 21, 22, 23, 24, 25, 26, 27, 28, 29, 30, 31] [3, 5, 6] (fun (x : Nat × List Int × Option MO × Option MO) => [(10, .p (.i x.1))]) (fun x => [(3, (1, some (.box 59 (v8L x.2.1)))), (5, (x.1, x.2.2.1)), (6, (x.1, x.2.2.2))])
    (fun x => x.1 ≤ l.length ∧ x.2.1 = spanTo l x.1 ∧ A = wTo l x.1 (l.length - x.1) ∧ ∀ n ∈ x.2.1, 0 ≤ n ∧ n < 18446744073709551616) (fun x => l.length - x.1) (0, zeroV, none, none) ⟨Nat.zero_le _, rfl, hA, by decide⟩ (by exact knA) (by exact knA) ?_
  rintro ⟨i, v, c5, c6⟩ β γ ⟨hi, hx, hw, hvb⟩
  simp only at hi hx hw hvb
  dsimp only
  have hv8 : v.length = 8 := by rw [hx]; exact spanTo_len l i
  by_cases hil : i < l.length
  · have hlt : decide ((i : Int) < (l.length : Int)) = true := decide_eq_true (by omega)
    have ei : (i : Int).toNat = i := Int.toNat_natCast i
    have nx := next_w v (l.getD (i : Int).toNat default).1 hv8 hvb
    rw [show l.length - i = (l.length - (i + 1)) + 1 by omega, wTo] at hw
    obtain ⟨D, E, hDE⟩ : ∃ D E, nextF v (l.getD (i : Int).toNat default).1 = (D, E) := ⟨_, _, rfl⟩
    rw [hDE] at nx
    haveI : PC Tryz.prog 65 [vV v, .p (.i (l.getD (i : Int).toNat default).1)] True (.tup [.agg (dL D), .one (.p (.i E))]) := ⟨fun _ => nx⟩
    have hok : wOk l i ↔ D = l.getD (i : Int).toNat default ∧ E = 0 := by
      unfold wOk
      rw [← hx, ← ei]
      simp only [ei]
      rw [ei] at hDE
      rw [hDE, Prod.mk.injEq]
    by_cases hE : E = 0
    · have d2 : decide (E ≠ 0) = false := decide_eq_false fun q => q hE
      have hq := congrArg not (vEqD D (l.getD (i : Int).toNat default))
      by_cases hD : D = l.getD (i : Int).toNat default
      · rw [decide_eq_true hD, Bool.not_true] at hq
        rw [decide_eq_true (hok.2 ⟨hD, hE⟩), Bool.true_and] at hw
        have hdot : dotF (l.getD i default) = true := next_dot (v := v) (by rw [ei] at hDE hD; rw [hDE, hD, hE]) hvb
        repeat' (first
            | refine rnC ?_
            | refine rnSB ?_
            | refine rnG ?_
            | refine rnU ?_
            | ((fail_if_success (refine rnKn ?_)); refine rnP ?_ ?_ <;> (intro hq; try (have hq' := hq; simp only [hqs] at hq')))
            | refine rkC ?_
            | refine rkSB ?_
            | refine rkF ?_
            | refine rkU ?_
            | ((fail_if_success (refine rkKn ?_)); refine rkP ?_ ?_ <;> (intro hq; try (have hq' := hq; simp only [hqs] at hq')))
            | refine stp ?_
            | refine ifT ?_
            | refine ifF ?_
            | (refine ifQ ?_ ?_ <;> (try (intro hn)))
            | (refine ifB ?_ ?_ <;> (intro hq; try (have hq' := hq; simp only [hqs] at hq'))))
        refine ⟨(i + 1, withF v (l.getD (i : Int).toNat default), _, _), _, by dsimp only; omega, ⟨by dsimp only; omega, ?_, hw, ?_⟩, .refl, by exact frA⟩
        · dsimp only
          rw [ei, spanTo, if_pos hdot, hx]
        · dsimp only
          unfold withF
          have hdm := hb (l.getD i default) (by rw [getD_at hil]; exact List.getElem_mem _)
          have hd2 := of_decide_eq_true hdot
          rw [ei]
          split
          · intro n hn
            rcases List.mem_or_eq_of_mem_set hn with k | rfl
            · exact hvb n k
            · split
              · omega
              · rw [getD_at (by omega)]; exact hvb _ (List.getElem_mem _)
          · exact hvb
      · rw [decide_eq_false hD, Bool.not_false] at hq
        rw [decide_eq_false (fun q => hD (hok.1 q).1), Bool.false_and] at hw
        rw [hw]
        as_aux_lemma =>
          repeat' (first
              | refine rnC ?_
              | refine rnSB ?_
              | refine rnG ?_
              | refine rnU ?_
              | ((fail_if_success (refine rnKn ?_)); refine rnP ?_ ?_ <;> (intro hq; try (have hq' := hq; simp only [hqs] at hq')))
              | refine rkC ?_
              | refine rkSB ?_
              | refine rkF ?_
              | refine rkU ?_
              | ((fail_if_success (refine rkKn ?_)); refine rkP ?_ ?_ <;> (intro hq; try (have hq' := hq; simp only [hqs] at hq')))
              | refine stp ?_
              | refine ifT ?_
              | refine ifF ?_
              | (refine ifQ ?_ ?_ <;> (try (intro hn)))
              | (refine ifB ?_ ?_ <;> (intro hq; try (have hq' := hq; simp only [hqs] at hq'))))
          exact rt1 rfl rfl finS_p rfl
    · have d2 : decide (E ≠ 0) = true := decide_eq_true hE
      rw [decide_eq_false (fun q => hE (hok.1 q).2), Bool.false_and] at hw
      rw [hw]
      as_aux_lemma =>
        repeat' (first
            | refine rnC ?_
            | refine rnSB ?_
            | refine rnG ?_
            | refine rnU ?_
            | ((fail_if_success (refine rnKn ?_)); refine rnP ?_ ?_ <;> (intro hq; try (have hq' := hq; simp only [hqs] at hq')))
            | refine rkC ?_
            | refine rkSB ?_
            | refine rkF ?_
            | refine rkU ?_
            | ((fail_if_success (refine rkKn ?_)); refine rkP ?_ ?_ <;> (intro hq; try (have hq' := hq; simp only [hqs] at hq')))
            | refine stp ?_
            | refine ifT ?_
            | refine ifF ?_
            | (refine ifQ ?_ ?_ <;> (try (intro hn)))
            | (refine ifB ?_ ?_ <;> (intro hq; try (have hq' := hq; simp only [hqs] at hq'))))
        exact rt1 rfl rfl finS_p rfl
  · have hlt : decide ((i : Int) < (l.length : Int)) = false := decide_eq_false (by omega)
    rw [show l.length - i = 0 by omega, wTo] at hw
    rw [hw, Bool.true_and]
    as_aux_lemma =>
      repeat' (first
          | refine rnC ?_
          | refine rnSB ?_
          | refine rnG ?_
          | refine rnU ?_
          | ((fail_if_success (refine rnKn ?_)); refine rnP ?_ ?_ <;> (intro hq; try (have hq' := hq; simp only [hqs] at hq')))
          | refine rkC ?_
          | refine rkSB ?_
          | refine rkF ?_
          | refine rkU ?_
          | ((fail_if_success (refine rkKn ?_)); refine rkP ?_ ?_ <;> (intro hq; try (have hq' := hq; simp only [hqs] at hq')))
          | refine stp ?_
          | refine ifT ?_
          | refine ifF ?_
          | (refine ifQ ?_ ?_ <;> (try (intro hn)))
          | (refine ifB ?_ ?_ <;> (intro hq; try (have hq' := hq; simp only [hqs] at hq'))))
      exact rt1 rfl rfl finS_p rfl
end Go.Proofs.YtebjmleheiefdaaGreat.Ca
