/- carts: a cart's cells; its functions that have no loop -/
import Derived.Test.YtbfjcohocedoaaaCaG
import Derived.Test.YtbfjcohocedoaaaCaF
import Derived.Test.YtbfjcohocedoaaaCaT
import Derived.Test.YtbfjcohocedoaaaCaE
import Derived.Test.YtbfjcohocedoaaaCa4
namespace Go.Proofs.Ytbfjcohocedoaaa.Ca
open Go Go.RowKit Go.Aw Go.Aw.Cart
set_option linter.unusedVariables false
set_option linter.unusedSimpArgs false
set_option maxRecDepth 8000
set_option maxHeartbeats 4000000
abbrev cL (v : List Int) (l : List Ent) (ex : Bool) : List AC := [.p (.k .u64 (v.getD 0 default)), .p (.k .u64 (v.getD 1 default)), .p (.k .u64 (v.getD 2 default)), .p (.k .u64 (v.getD 3 default)), .p (.k .u64 (v.getD 4 default)), .p (.k .u64 (v.getD 5 default)), .p (.k .u64 (v.getD 6 default)), .p (.k .u64 (v.getD 7 default)), .p (.sl 4 (l.map eR) ex)]
abbrev cV (v : List Int) (l : List Ent) (ex : Bool) : AV := .a (cL v l ex)
theorem v8_eq : ∀ {v : List Int}, v.length = 8 → v = [v.getD 0 default, v.getD 1 default, v.getD 2 default, v.getD 3 default, v.getD 4 default, v.getD 5 default, v.getD 6 default, v.getD 7 default]
  | [a0, a1, a2, a3, a4, a5, a6, a7], _ => rfl
theorem lk_v8 {σ : St} {x : Operand} {v : List Int} (hv : v.length = 8) (h : σ.look x = .a [.p (.k .u64 (v.getD 0 default)), .p (.k .u64 (v.getD 1 default)), .p (.k .u64 (v.getD 2 default)), .p (.k .u64 (v.getD 3 default)), .p (.k .u64 (v.getD 4 default)), .p (.k .u64 (v.getD 5 default)), .p (.k .u64 (v.getD 6 default)), .p (.k .u64 (v.getD 7 default))]) : σ.look x = vV v := by
  rw [h, v8_eq hv]; rfl
theorem lk_v8l {σ : St} {x : Operand} {a0 a1 a2 a3 a4 a5 a6 a7 : Int} (h : σ.look x = .a [.p (.k .u64 a0), .p (.k .u64 a1), .p (.k .u64 a2), .p (.k .u64 a3), .p (.k .u64 a4), .p (.k .u64 a5), .p (.k .u64 a6), .p (.k .u64 a7)]) : σ.look x = vV [a0, a1, a2, a3, a4, a5, a6, a7] := h
theorem lk_cart {σ : St} {x : Operand} {a0 a1 a2 a3 a4 a5 a6 a7 : Int} {l : List Ent} {ex : Bool} (h : σ.look x = .a [.p (.k .u64 a0), .p (.k .u64 a1), .p (.k .u64 a2), .p (.k .u64 a3), .p (.k .u64 a4), .p (.k .u64 a5), .p (.k .u64 a6), .p (.k .u64 a7), .p (.sl 4 (l.map eR) ex)]) : σ.look x = cV [a0, a1, a2, a3, a4, a5, a6, a7] l ex := h
theorem lopV {C : Ctx} {o : Oper} {σ : St} {e : Eff} {ro : Nat → Bool} (h : LOp C o σ e ro := by
    first
      | exact lopY
      | (apply lop_call2; (focus rfl); (focus exact inferInstance); (focus first | exact lk_v8 (by assumption) rfl | exact lk_v8l rfl); (focus first | exact lk_m1 rfl | exact lk_m2 rfl | exact lk_m3 rfl | exact lk_o rfl | exact lk_a2 rfl | exact lk_a3 rfl | exact lk_a4 rfl | exact lk_a1 rfl | exact lk_a5 rfl | exact lk_a6 rfl | exact lk_a7 rfl | exact lk_a8 rfl | exact lk_a rfl); (focus exact inferInstance); (focus exact inferInstance); (focus first | exact True.intro | assumption | rfl | omega | ((repeat' (first | assumption | refine And.intro ?_ ?_ | omega | rfl)); done) | fail); (focus rfl))
      | (apply lop_call1; (focus rfl); (focus exact inferInstance); (focus exact lk_cart rfl); (focus exact inferInstance); (focus exact inferInstance); (focus first | exact True.intro | assumption | rfl | omega | ((repeat' (first | assumption | refine And.intro ?_ ?_ | omega | rfl)); done) | fail); (focus rfl))
      | (apply lop_call2; (focus rfl); (focus exact inferInstance); (focus exact lk_cart rfl); (focus first | exact lk_m1 rfl | exact lk_m2 rfl | exact lk_m3 rfl | exact lk_o rfl | exact lk_a2 rfl | exact lk_a3 rfl | exact lk_a4 rfl | exact lk_a1 rfl | exact lk_a5 rfl | exact lk_a6 rfl | exact lk_a7 rfl | exact lk_a8 rfl | exact lk_a rfl); (focus exact inferInstance); (focus exact inferInstance); (focus first | exact True.intro | assumption | rfl | omega | ((repeat' (first | assumption | refine And.intro ?_ ?_ | omega | rfl)); done) | fail); (focus rfl))
      | fail) : LOp C o σ e ro := h
section steps
variable {C : Ctx} {ops : Array Oper} {o : Oper} {rest : List Oper} {K : St → Prop} {σ : St} {e : Eff} {ro : Nat → Bool} {W : List (Nat × Nat)} {i : Nat}
theorem rnV {d : Nat} (hk : RunN C ops rest K (e.app (some d) σ)) (hg : Guard ops σ o true := by first | exact gd_n rfl rfl | exact gd_t rfl rfl rfl rfl | exact gd_t rfl rfl rfl (by assumption)) (hd : o.dst = some d := by rfl) (h : LOp C o σ e ro := by exact lopV) : RunN C ops (o :: rest) K σ := rn_any hg hd h hk
theorem rkV {d : Nat} (hk : RunK C ops W (i + 1) rest K (e.app (some d) σ)) (hg : Guard ops σ o true := by first | exact gd_n rfl rfl | exact gd_t rfl rfl rfl rfl | exact gd_t rfl rfl rfl (by assumption)) (hd' : o.dst = some d := by rfl) (hd : dOk C o.dst = true := by rfl) (h : LOp C o σ e ro := by exact lopV)
    (hro : ∀ x, ro x = true → okObj ops W i x = true := by first | exact fun _ => ro_none | exact ro_one rfl | exact ro_one (by kernel_rfl) | exact ro_kIn (by decide)) (hob : ∀ p ∈ e.obj, (i, p.1) ∈ W := by first | exact ob_none | exact ob_one (by decide) | decide) : RunK C ops W i (o :: rest) K σ := rk_wr hg hd' hd h hro hob hk
end steps
/-! dots -/
theorem dOf_w (l : List Dot) (ex : Bool) (h : l.length ≤ 1000000000) : PCall Try.prog 70 [.p (.sl 2 (l.map dR) ex)] (.p (.sl 2 ((G.dotsOf l).map dR) false)) := by
  refine pcall_of Try.func70 rfl (fun w0 F S0 M0 => ?_)
  haveI : PC Try.prog 80 [.p (.fnv 87 [.bx [.sl 2 (l.map dR) ex] 0])] True (.p (.sl 2 ((G.dotsOf l).map dR) false)) := ⟨fun _ => G.set_w _ _ inferInstance l h (iterD_w l ex h)⟩
  repeat' (first
      | refine rnY ?_
      | refine rnSQ ?_
      | refine rnG ?_
      | refine rnU ?_
      | ((fail_if_success (refine rnKn ?_)); refine rnP ?_ ?_ <;> (intro hq; try (have hq' := hq; simp only [hqs] at hq')))
      | refine rkY ?_
      | refine rkSQ ?_
      | refine rkF ?_
      | refine rkU ?_
      | ((fail_if_success (refine rkKn ?_)); refine rkP ?_ ?_ <;> (intro hq; try (have hq' := hq; simp only [hqs] at hq')))
      | refine stp ?_
      | refine aws_draws [] mixed (by kernel_rfl) ?_
      | refine ifT ?_
      | refine ifF ?_
      | (refine ifQ ?_ ?_ <;> (try (intro hn)))
      | (refine ifB ?_ ?_ <;> (intro hq; try (have hq' := hq; simp only [hqs] at hq'))))
  exact rt1 rfl rfl finS_p rfl
instance {l : List Dot} {ex : Bool} : PC Try.prog 70 [.p (.sl 2 (l.map dR) ex)] (l.length ≤ 1000000000) (.p (.sl 2 ((G.dotsOf l).map dR) false)) := ⟨dOf_w l ex⟩
def idxD (d : Dot) (l : List Dot) (k : Nat) : Nat → Int
  | 0 => -1
  | n + 1 => if d = l.getD k default then k else idxD d l (k + 1) n
theorem idxD_any {d : Dot} {l : List Dot} : ∀ (n k : Nat), k + n = l.length → decide (0 ≤ idxD d l k n) = decide (d ∈ l.drop k)
  | 0, k, h => by rw [List.drop_eq_nil_of_le (by omega)]; exact decide_eq_decide.2 ⟨fun h => by rw [idxD] at h; omega, fun h => by cases h⟩
  | n + 1, k, h => by
    have hk : k < l.length := by omega
    have e : l.drop k = l.getD k default :: l.drop (k + 1) := by
      rw [List.getD_eq_getElem?_getD, List.getElem?_eq_getElem hk]; exact List.drop_eq_getElem_cons hk
    have ih := decide_eq_decide.1 (idxD_any (d := d) (l := l) n (k + 1) (by omega))
    refine decide_eq_decide.2 ?_
    rw [idxD, e, List.mem_cons]
    by_cases hp : d = l.getD k default
    · rw [if_pos hp]; exact ⟨fun _ => .inl hp, fun _ => by omega⟩
    · rw [if_neg hp, ih]; exact ⟨.inr, fun h => h.resolve_left hp⟩
end Go.Proofs.Ytbfjcohocedoaaa.Ca
