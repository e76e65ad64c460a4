/- clashes, the laws: fixed calls -/
import Derived.Test.YtpamepepibnlfaaClC
import Derived.Test.YtpamepepibnlfaaClH
namespace Go.Proofs.Ytpamepepibnlfaa.Clk
open Go Go.RowKit Go.Aw Go.Aw.Sha Go.Aw.Tree Go.Aw.Clash Go.Proofs.Ytpamepepibnlfaa.Sh Go.Proofs.Ytpamepepibnlfaa.Tr Go.Proofs.Ytpamepepibnlfaa.Cl
set_option linter.unusedVariables false
set_option linter.unusedSimpArgs false
set_option maxRecDepth 8000
attribute [local irreducible] sum
set_option maxHeartbeats 4000000
theorem ent_cells' {cs ds : List AC} (h : All2 (fun c d => ∀ μ X v, AC.holds μ X c v → AC.holds Mu.none X d v) cs ds) : Ent (.a cs) (.a ds) := by
  rintro μ X v ⟨arr, rfl, h1⟩
  refine ⟨arr, rfl, h.1.symm.trans h1.1, fun i d x hd hx => ?_⟩
  have hi : i < cs.length := by rw [h.1]; exact (List.getElem?_eq_some_iff.1 hd).1
  have hc : cs[i]? = some cs[i] := List.getElem?_eq_getElem hi
  exact h.2 i _ d hc hd _ _ _ (h1.2 i _ x hc hx)
theorem ent_nil' : ∀ μ X v, AC.holds μ X (.p (.v (.slice none 0 0))) v → AC.holds Mu.none X (.p (bytesP [] false)) v := by
  rintro μ X v h2
  exact ⟨none, 0, h2.1, Nat.le_refl _, by simp [maxLen], by simp, rfl, rfl⟩
abbrev aF : AV := .a [.p (.v (.slice none 0 0)), .p (.v (.slice none 0 0)), .p (.v (.slice none 0 0)), .p (.v (.slice none 0 0)), .p (.v (.slice none 0 0)), .p (.v (.slice none 0 0)), .p (.v (.slice none 0 0)), .p (.v (.slice none 0 0)), .p (.v (.slice none 0 0)), .p (.v (.slice none 0 0)), .p (.v (.slice none 0 0)), .p (.v (.slice none 0 0)), .p (.v (.slice none 0 0)), .p (.v (.slice none 0 0)), .p (.v (.slice none 0 0)), .p (.v (.slice none 0 0))]
abbrev bF : AV := .a [.p (.v (.slice none 0 0)), .p (.v (.slice none 0 0)), .p (.v (.slice none 0 0)), .p (.sl 1 [[.v (.int .u8 120)]] false), .p (.v (.slice none 0 0)), .p (.v (.slice none 0 0)), .p (.v (.slice none 0 0)), .p (.v (.slice none 0 0)), .p (.v (.slice none 0 0)), .p (.v (.slice none 0 0)), .p (.v (.slice none 0 0)), .p (.v (.slice none 0 0)), .p (.v (.slice none 0 0)), .p (.v (.slice none 0 0)), .p (.v (.slice none 0 0)), .p (.v (.slice none 0 0))]
theorem EA : Ent aF (txs fixA) := by
  refine ent_cells' ?_
  repeat' (first | exact All2.nil | refine All2.cons ?_ ?_ | exact ent_nil' | exact fun _ _ _ h => h)
theorem EB : Ent bF (txs fixB) := by
  refine ent_cells' ?_
  repeat' (first | exact All2.nil | refine All2.cons ?_ ?_ | exact ent_nil' | exact fun _ _ _ h => h)
theorem lopC {C : Ctx} {o : Oper} {σ : St} {e : Eff} {ro : Nat → Bool} (h : LOp C o σ e ro := by
    first
      | (apply lop_eqls; (focus rfl); (focus exact inferInstance); (focus rfl); (focus rfl); (focus rfl))
      | exact lop_call rfl (.cons EA (.cons EB .nil)) (by assumption) rfl
      | exact lop_call rfl (.cons EA (.cons EA .nil)) (by assumption) rfl
      | exact lop_call rfl (.cons EB (.cons Ent.p .nil)) (by assumption) rfl
      | exact lop_call rfl (.cons EA (.cons Ent.p .nil)) (by assumption) rfl
      | (apply lop_bo1k (.int .u8 120); (focus rfl); (focus rfl); (focus rfl); (focus exact inferInstance); (focus exact inferInstance); (focus exact inferInstance); (focus rfl); (focus rfl); (focus rfl))
      | (apply lop_cv_bb; (focus rfl); (focus exact inferInstance); (focus exact inferInstance); (focus rfl); (focus rfl); (focus rfl); (focus rfl); (focus decide); (focus rfl))
      | exact lopB
      | fail) : LOp C o σ e ro := h
section steps
variable {C : Ctx} {ops : Array Oper} {o : Oper} {rest : List Oper} {K : St → Prop} {σ : St} {e : Eff} {ro : Nat → Bool} {W : List (Nat × Nat)} {i : Nat}
theorem rnC {d : Nat} (hk : RunN C ops rest K (e.app (some d) σ)) (hg : Guard ops σ o true := by first | exact gd_n rfl rfl | exact gd_t rfl rfl rfl rfl | exact gd_t rfl rfl rfl (by assumption)) (hd : o.dst = some d := by rfl) (h : LOp C o σ e ro := by exact lopC) : RunN C ops (o :: rest) K σ := rn_any hg hd h hk
theorem rkC {d : Nat} (hk : RunK C ops W (i + 1) rest K (e.app (some d) σ)) (hg : Guard ops σ o true := by first | exact gd_n rfl rfl | exact gd_t rfl rfl rfl rfl | exact gd_t rfl rfl rfl (by assumption)) (hd' : o.dst = some d := by rfl) (hd : dOk C o.dst = true := by rfl) (h : LOp C o σ e ro := by exact lopC)
    (hro : ∀ x, ro x = true → okObj ops W i x = true := by first | exact fun _ => ro_none | exact ro_one rfl | exact ro_one (by kernel_rfl) | exact ro_kIn (by decide)) (hob : ∀ p ∈ e.obj, (i, p.1) ∈ W := by first | exact ob_none | exact ob_one (by decide) | decide) : RunK C ops W i (o :: rest) K σ := rk_wr hg hd' hd h hro hob hk
end steps


theorem alive_w : PCall Try.prog 15 [] (.p (.b true)) := by
  refine pcall_of Try.func15 rfl (fun w0 F S0 M0 => ?_)
  have c1 := extract_w fixA fixB ⟨fixA_few, fixB_few, fixA_ok, fixB_ok⟩
  rw [ex_none fix_none] at c1
  have c2 := at_w fixA fixA ⟨fixA_few, fixA_few, fixA_ok, fixA_ok⟩
  rw [at_self] at c2
  have c3 := exact_w fixA fixB ⟨fixA_few, fixB_few, fixA_ok, fixB_ok⟩
  rw [decide_eq_true (exact_none fix_none)] at c3
  have c4 := exact_w fixA fixA ⟨fixA_few, fixA_few, fixA_ok, fixA_ok⟩
  rw [decide_eq_true (exact_none (self_none fixA))] at c4
  have c5 := Made_w fixB 8 fixB_few
  rw [fix_8] at c5
  have c6 := Made_w fixA 0 fixA_few
  have c7 := Made_w fixA 21 fixA_few
  rw [fix_21] at c7
  have hM := fix_0
  generalize madeF fixA (ofF fixA) 0 = M at c6 hM
  have e1 : decide ((M.length : Int) = 129) = true := by rw [hM]; rfl
  repeat' (first
      | refine rnC ?_
      | refine rnSB ?_
      | refine rnG ?_
      | refine rnU ?_
      | ((fail_if_success (refine rnKn ?_)); refine rnP ?_ ?_ <;> (intro hq; try (have hq' := hq; simp only [hqs] at hq')))
      | refine rkC ?_
      | refine rkSB ?_
      | refine rkF ?_
      | refine rkU ?_
      | ((fail_if_success (refine rkKn ?_)); refine rkP ?_ ?_ <;> (intro hq; try (have hq' := hq; simp only [hqs] at hq')))
      | refine stp ?_
      | refine ifT ?_
      | refine ifF ?_
      | (refine ifQ ?_ ?_ <;> (try (intro hn)))
      | (refine ifB ?_ ?_ <;> (intro hq; try (have hq' := hq; simp only [hqs] at hq'))))
  exact rt1 rfl rfl finS_p rfl
instance : PC Try.prog 15 [] True (.p (.b true)) := ⟨fun _ => alive_w⟩
end Go.Proofs.Ytpamepepibnlfaa.Clk
