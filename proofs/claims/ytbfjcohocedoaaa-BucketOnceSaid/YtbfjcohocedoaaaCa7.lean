/- carts: nodes, dots, entries, tallies // carts: the first entry of which something holds // carts: is there an entry of which something holds? -/
import Derived.Test.YtbfjcohocedoaaaCa1
import Derived.Test.YtbfjcohocedoaaaKj
namespace Go.Proofs.Ytbfjcohocedoaaa.Ca
open Go Go.RowKit Go.Aw Go.Aw.Cart
set_option linter.unusedVariables false
set_option linter.unusedSimpArgs false
set_option maxRecDepth 8000
set_option maxHeartbeats 4000000
def nodeF (n : Int) : Bool := decide (1 ≤ n ∧ n ≤ 8)
def dotF (d : Dot) : Bool := decide (1 ≤ d.1 ∧ d.1 ≤ 8 ∧ 0 < d.2)
def getF (v : List Int) (n : Int) : Int := if 1 ≤ n ∧ n ≤ 8 then v.getD (n - 1).toNat default else 0
def hasF (v : List Int) (d : Dot) : Bool := dotF d && decide (d.2 ≤ getF v d.1)
def entF (e : Ent) : Bool := decide (1 ≤ e.1 ∧ e.1 ≤ 60 ∧ -1000 ≤ e.2.2.2 ∧ e.2.2.2 ≤ 1000)
abbrev vV (v : List Int) : AV := .a (v.map fun n => .p (.k .u64 n))
theorem isNode_w (n : Int) : PCall Try.prog 77 [.p (.i n)] (.p (.b (nodeF n))) := by
  refine pcall_of Try.func77 rfl (fun w0 F S0 M0 => ?_)
  unfold nodeF
  repeat' (first
      | refine rnJ ?_
      | refine rnSB ?_
      | refine rnG ?_
      | refine rnU ?_
      | ((fail_if_success (refine rnKn ?_)); refine rnP ?_ ?_ <;> (intro hq; try (have hq' := hq; simp only [hqs] at hq')))
      | refine rkJ ?_
      | refine rkSB ?_
      | refine rkF ?_
      | refine rkU ?_
      | ((fail_if_success (refine rkKn ?_)); refine rkP ?_ ?_ <;> (intro hq; try (have hq' := hq; simp only [hqs] at hq')))
      | refine stp ?_
      | refine aws_draws [] mixed (by kernel_rfl) ?_
      | refine ifT ?_
      | refine ifF ?_
      | (refine ifQ ?_ ?_ <;> (try (intro hn)))
      | (refine ifB ?_ ?_ <;> (intro hq; try (have hq' := hq; simp only [hqs] at hq'))))
  all_goals refine rt1 rfl rfl finS_p (rb ?_)
  all_goals first | exact decide_eq_decide.2 (by omega) | exact decide_eq_true (by omega) | exact decide_eq_false (by omega)
instance {n : Int} : PC Try.prog 77 [.p (.i n)] True (.p (.b (nodeF n))) := ⟨fun _ => isNode_w n⟩
theorem dotR_w (d : Dot) : PCall Try.prog 65 [dV d] (.p (.b (dotF d))) := by
  refine pcall_of Try.func65 rfl (fun w0 F S0 M0 => ?_)
  unfold dotF
  cases h : nodeF d.1 with
  | true =>
    have := of_decide_eq_true h
    repeat' (first
        | refine rnJ ?_
        | refine rnSB ?_
        | refine rnG ?_
        | refine rnU ?_
        | ((fail_if_success (refine rnKn ?_)); refine rnP ?_ ?_ <;> (intro hq; try (have hq' := hq; simp only [hqs] at hq')))
        | refine rkJ ?_
        | refine rkSB ?_
        | refine rkF ?_
        | refine rkU ?_
        | ((fail_if_success (refine rkKn ?_)); refine rkP ?_ ?_ <;> (intro hq; try (have hq' := hq; simp only [hqs] at hq')))
        | refine stp ?_
        | refine aws_draws [] mixed (by kernel_rfl) ?_
        | refine ifT ?_
        | refine ifF ?_
        | (refine ifQ ?_ ?_ <;> (try (intro hn)))
        | (refine ifB ?_ ?_ <;> (intro hq; try (have hq' := hq; simp only [hqs] at hq'))))
    refine rt1 rfl rfl finS_p (rb ?_)
    exact decide_eq_decide.2 (by omega)
  | false =>
    have := of_decide_eq_false h
    repeat' (first
        | refine rnJ ?_
        | refine rnSB ?_
        | refine rnG ?_
        | refine rnU ?_
        | ((fail_if_success (refine rnKn ?_)); refine rnP ?_ ?_ <;> (intro hq; try (have hq' := hq; simp only [hqs] at hq')))
        | refine rkJ ?_
        | refine rkSB ?_
        | refine rkF ?_
        | refine rkU ?_
        | ((fail_if_success (refine rkKn ?_)); refine rkP ?_ ?_ <;> (intro hq; try (have hq' := hq; simp only [hqs] at hq')))
        | refine stp ?_
        | refine aws_draws [] mixed (by kernel_rfl) ?_
        | refine ifT ?_
        | refine ifF ?_
        | (refine ifQ ?_ ?_ <;> (try (intro hn)))
        | (refine ifB ?_ ?_ <;> (intro hq; try (have hq' := hq; simp only [hqs] at hq'))))
    refine rt1 rfl rfl finS_p (rb ?_)
    exact decide_eq_false (by omega)
instance {d : Dot} : PC Try.prog 65 [dV d] True (.p (.b (dotF d))) := ⟨fun _ => dotR_w d⟩
theorem get_w (v : List Int) (n : Int) (hv : v.length = 8) : PCall Try.prog 66 [vV v, .p (.i n)] (.p (.k .u64 (getF v n))) := by
  refine pcall_of Try.func66 rfl (fun w0 F S0 M0 => ?_)
  unfold getF
  by_cases h : 1 ≤ n ∧ n ≤ 8
  · have hn : (!nodeF n) = false := by rw [show nodeF n = true from decide_eq_true h]; rfl
    rw [if_pos h]
    repeat' (first
        | refine rnJ ?_
        | refine rnSB ?_
        | refine rnG ?_
        | refine rnU ?_
        | ((fail_if_success (refine rnKn ?_)); refine rnP ?_ ?_ <;> (intro hq; try (have hq' := hq; simp only [hqs] at hq')))
        | refine rkJ ?_
        | refine rkSB ?_
        | refine rkF ?_
        | refine rkU ?_
        | ((fail_if_success (refine rkKn ?_)); refine rkP ?_ ?_ <;> (intro hq; try (have hq' := hq; simp only [hqs] at hq')))
        | refine stp ?_
        | refine aws_draws [] mixed (by kernel_rfl) ?_
        | refine ifT ?_
        | refine ifF ?_
        | (refine ifQ ?_ ?_ <;> (try (intro hn)))
        | (refine ifB ?_ ?_ <;> (intro hq; try (have hq' := hq; simp only [hqs] at hq'))))
    exact rt1 rfl rfl finS_p rfl
  · have hn : (!nodeF n) = true := by rw [show nodeF n = false from decide_eq_false h]; rfl
    rw [if_neg h]
    repeat' (first
        | refine rnJ ?_
        | refine rnSB ?_
        | refine rnG ?_
        | refine rnU ?_
        | ((fail_if_success (refine rnKn ?_)); refine rnP ?_ ?_ <;> (intro hq; try (have hq' := hq; simp only [hqs] at hq')))
        | refine rkJ ?_
        | refine rkSB ?_
        | refine rkF ?_
        | refine rkU ?_
        | ((fail_if_success (refine rkKn ?_)); refine rkP ?_ ?_ <;> (intro hq; try (have hq' := hq; simp only [hqs] at hq')))
        | refine stp ?_
        | refine aws_draws [] mixed (by kernel_rfl) ?_
        | refine ifT ?_
        | refine ifF ?_
        | (refine ifQ ?_ ?_ <;> (try (intro hn)))
        | (refine ifB ?_ ?_ <;> (intro hq; try (have hq' := hq; simp only [hqs] at hq'))))
    exact rt1 rfl rfl finS_p rfl
instance {v : List Int} {n : Int} : PC Try.prog 66 [vV v, .p (.i n)] (v.length = 8) (.p (.k .u64 (getF v n))) := ⟨get_w v n⟩
theorem has_w (v : List Int) (d : Dot) (hv : v.length = 8) : PCall Try.prog 42 [vV v, dV d] (.p (.b (hasF v d))) := by
  refine pcall_of Try.func42 rfl (fun w0 F S0 M0 => ?_)
  unfold hasF
  cases h : dotF d with
  | true =>
    repeat' (first
        | refine rnJ ?_
        | refine rnSB ?_
        | refine rnG ?_
        | refine rnU ?_
        | ((fail_if_success (refine rnKn ?_)); refine rnP ?_ ?_ <;> (intro hq; try (have hq' := hq; simp only [hqs] at hq')))
        | refine rkJ ?_
        | refine rkSB ?_
        | refine rkF ?_
        | refine rkU ?_
        | ((fail_if_success (refine rkKn ?_)); refine rkP ?_ ?_ <;> (intro hq; try (have hq' := hq; simp only [hqs] at hq')))
        | refine stp ?_
        | refine aws_draws [] mixed (by kernel_rfl) ?_
        | refine ifT ?_
        | refine ifF ?_
        | (refine ifQ ?_ ?_ <;> (try (intro hn)))
        | (refine ifB ?_ ?_ <;> (intro hq; try (have hq' := hq; simp only [hqs] at hq'))))
    exact rt1 rfl rfl finS_p rfl
  | false =>
    repeat' (first
        | refine rnJ ?_
        | refine rnSB ?_
        | refine rnG ?_
        | refine rnU ?_
        | ((fail_if_success (refine rnKn ?_)); refine rnP ?_ ?_ <;> (intro hq; try (have hq' := hq; simp only [hqs] at hq')))
        | refine rkJ ?_
        | refine rkSB ?_
        | refine rkF ?_
        | refine rkU ?_
        | ((fail_if_success (refine rkKn ?_)); refine rkP ?_ ?_ <;> (intro hq; try (have hq' := hq; simp only [hqs] at hq')))
        | refine stp ?_
        | refine aws_draws [] mixed (by kernel_rfl) ?_
        | refine ifT ?_
        | refine ifF ?_
        | (refine ifQ ?_ ?_ <;> (try (intro hn)))
        | (refine ifB ?_ ?_ <;> (intro hq; try (have hq' := hq; simp only [hqs] at hq'))))
    exact rt1 rfl rfl finS_p rfl
instance {v : List Int} {d : Dot} : PC Try.prog 42 [vV v, dV d] (v.length = 8) (.p (.b (hasF v d))) := ⟨has_w v d⟩
theorem isEntry_w (e : Ent) : PCall Try.prog 41 [eV e] (.p (.b (entF e))) := by
  refine pcall_of Try.func41 rfl (fun w0 F S0 M0 => ?_)
  unfold entF
  repeat' (first
      | refine rnJ ?_
      | refine rnSB ?_
      | refine rnG ?_
      | refine rnU ?_
      | ((fail_if_success (refine rnKn ?_)); refine rnP ?_ ?_ <;> (intro hq; try (have hq' := hq; simp only [hqs] at hq')))
      | refine rkJ ?_
      | refine rkSB ?_
      | refine rkF ?_
      | refine rkU ?_
      | ((fail_if_success (refine rkKn ?_)); refine rkP ?_ ?_ <;> (intro hq; try (have hq' := hq; simp only [hqs] at hq')))
      | refine stp ?_
      | refine aws_draws [] mixed (by kernel_rfl) ?_
      | refine ifT ?_
      | refine ifF ?_
      | (refine ifQ ?_ ?_ <;> (try (intro hn)))
      | (refine ifB ?_ ?_ <;> (intro hq; try (have hq' := hq; simp only [hqs] at hq'))))
  all_goals refine rt1 rfl rfl finS_p (rb ?_)
  all_goals first | exact decide_eq_decide.2 (by omega) | exact decide_eq_true (by omega) | exact decide_eq_false (by omega)
instance {e : Ent} : PC Try.prog 41 [eV e] True (.p (.b (entF e))) := ⟨fun _ => isEntry_w e⟩
def dotE (e : Ent) : Dot := (e.2.1, e.2.2.1)
theorem dot_w (e : Ent) : PCall Try.prog 43 [eV e] (dV (dotE e)) := by
  refine pcall_of Try.func43 rfl (fun w0 F S0 M0 => ?_)
  repeat' (first
      | refine rnJ ?_
      | refine rnSB ?_
      | refine rnG ?_
      | refine rnU ?_
      | ((fail_if_success (refine rnKn ?_)); refine rnP ?_ ?_ <;> (intro hq; try (have hq' := hq; simp only [hqs] at hq')))
      | refine rkJ ?_
      | refine rkSB ?_
      | refine rkF ?_
      | refine rkU ?_
      | ((fail_if_success (refine rkKn ?_)); refine rkP ?_ ?_ <;> (intro hq; try (have hq' := hq; simp only [hqs] at hq')))
      | refine stp ?_
      | refine aws_draws [] mixed (by kernel_rfl) ?_
      | refine ifT ?_
      | refine ifF ?_
      | (refine ifQ ?_ ?_ <;> (try (intro hn)))
      | (refine ifB ?_ ?_ <;> (intro hq; try (have hq' := hq; simp only [hqs] at hq'))))
  exact rc1 rfl rfl rfl rfl rfl rfl finL_p rfl
instance {e : Ent} : PC Try.prog 43 [eV e] True (dV (dotE e)) := ⟨fun _ => dot_w e⟩
end Go.Proofs.Ytbfjcohocedoaaa.Ca
namespace Go.Proofs.Ytbfjcohocedoaaa.Ca
open Go Go.RowKit Go.Aw Go.Aw.Cart
set_option linter.unusedVariables false
set_option linter.unusedSimpArgs false
set_option maxRecDepth 8000
set_option maxHeartbeats 4000000
/-- a function's value that tells something of an entry -/
class FP (P : Program) (f : FuncId) (caps : List PVal) (pre : outParam Prop) (p : outParam (Ent → Bool)) : Prop where
  call : pre → ∀ e, PCall P f ([eV e] ++ caps.map .p) (.p (.b (p e)))
def idxP (p : Ent → Bool) (l : List Ent) (k : Nat) : Nat → Int
  | 0 => -1
  | n + 1 => if p (l.getD k default) = true then k else idxP p l (k + 1) n
theorem idxP_any {p : Ent → Bool} {l : List Ent} : ∀ (n k : Nat), k + n = l.length → decide (0 ≤ idxP p l k n) = (l.drop k).any p
  | 0, k, h => by rw [List.drop_eq_nil_of_le (by omega)]; rfl
  | n + 1, k, h => by
    have hk : k < l.length := by omega
    have e : l.drop k = l.getD k default :: l.drop (k + 1) := by
      rw [List.getD_eq_getElem?_getD, List.getElem?_eq_getElem hk]; exact List.drop_eq_getElem_cons hk
    rw [idxP, e, List.any_cons, ← idxP_any n (k + 1) (by omega)]
    by_cases hp : p (l.getD k default) = true
    · rw [if_pos hp, hp]; exact decide_eq_true (by omega)
    · rw [if_neg hp, Bool.eq_false_iff.2 hp, Bool.false_or]
namespace C8
theorem lopC {C : Ctx} {o : Oper} {σ : St} {e : Eff} {ro : Nat → Bool} (h : LOp C o σ e ro := by
    first
      | (apply lop_callv1; (focus rfl); (focus rfl); (focus assumption); (focus first | exact lk_o rfl | exact lk_a rfl); (focus exact inferInstance); (focus exact inferInstance); (focus exact True.intro); (focus rfl))
      | exact lopJ
      | fail) : LOp C o σ e ro := h
section steps
variable {C : Ctx} {ops : Array Oper} {o : Oper} {rest : List Oper} {K : St → Prop} {σ : St} {e : Eff} {ro : Nat → Bool} {W : List (Nat × Nat)} {i : Nat}
theorem rnC {d : Nat} (hk : RunN C ops rest K (e.app (some d) σ)) (hg : Guard ops σ o true := by first | exact gd_n rfl rfl | exact gd_t rfl rfl rfl rfl | exact gd_t rfl rfl rfl (by assumption)) (hd : o.dst = some d := by rfl) (h : LOp C o σ e ro := by exact lopC) : RunN C ops (o :: rest) K σ := rn_any hg hd h hk
end steps
end C8
open C8
end Go.Proofs.Ytbfjcohocedoaaa.Ca
namespace Go.Proofs.Ytbfjcohocedoaaa.Ca
open Go Go.RowKit Go.Aw Go.Aw.Cart
set_option linter.unusedVariables false
set_option linter.unusedSimpArgs false
set_option maxRecDepth 8000
set_option maxHeartbeats 4000000
end Go.Proofs.Ytbfjcohocedoaaa.Ca
