/- the reference, chapter 07: what an op does -/
import Derived.Test.YtpmobjnaiaogbaaGreatCq1
import Derived.Test.YtpmobjnaiaogbaaGreatCr6
import Derived.Test.YtpmobjnaiaogbaaGreatCe4
namespace Go.Proofs.YtpmobjnaiaogbaaGreat.Cq
open Go Go.RowKit Go.Aw Go.Aw.Cart Go.Aw.Ord Go.Proofs.YtpmobjnaiaogbaaGreat.Ca
set_option linter.unusedVariables false
set_option linter.unusedSimpArgs false
set_option maxRecDepth 8000
set_option maxHeartbeats 8000000
namespace Q3
theorem lopC {C : Ctx} {o : Oper} {σ : St} {e : Eff} {ro : Nat → Bool} (h : LOp C o σ e ro := by
    first
      | exact Go.Proofs.YtpmobjnaiaogbaaGreat.Cv.R9.lopC
      | exact Go.Proofs.YtpmobjnaiaogbaaGreat.Ca.E4.lopC
      | (apply lop_call2; (focus rfl); (focus exact inferInstance); (focus first | exact lk_v8 (by assumption) rfl | exact lk_v8l rfl); (focus first | exact lk_v8 (by assumption) rfl | exact lk_v8l rfl); (focus exact inferInstance); (focus exact inferInstance); (focus first | exact True.intro | assumption | rfl | omega | ((repeat' (first | assumption | refine And.intro ?_ ?_ | omega | rfl)); done) | fail); (focus rfl))
      | fail) : LOp C o σ e ro := h
section steps
variable {C : Ctx} {ops : Array Oper} {o : Oper} {rest : List Oper} {K : St → Prop} {σ : St} {e : Eff} {ro : Nat → Bool} {W : List (Nat × Nat)} {i : Nat}
theorem rnC {d : Nat} (hk : RunN C ops rest K (e.app (some d) σ)) (hg : Guard ops σ o true := by first | exact gd_n rfl rfl | exact gd_t rfl rfl rfl rfl | exact gd_t rfl rfl rfl (by assumption)) (hd : o.dst = some d := by rfl) (h : LOp C o σ e ro := by exact lopC) : RunN C ops (o :: rest) K σ := rn_any hg hd h hk
theorem rkC {d : Nat} (hk : RunK C ops W (i + 1) rest K (e.app (some d) σ)) (hg : Guard ops σ o true := by first | exact gd_n rfl rfl | exact gd_t rfl rfl rfl rfl | exact gd_t rfl rfl rfl (by assumption)) (hd' : o.dst = some d := by rfl) (hd : dOk C o.dst = true := by rfl) (h : LOp C o σ e ro := by exact lopC)
    (hro : ∀ x, ro x = true → okObj ops W i x = true := by first | exact fun _ => ro_none | exact ro_one rfl | exact ro_k1 rfl | exact ro_one (by kernel_rfl) | exact ro_k1 (by kernel_rfl) | exact ro_kIn (by decide)) (hob : ∀ p ∈ e.obj, (i, p.1) ∈ W := by first | exact ob_none | exact ob_one (by decide) | decide) : RunK C ops W i (o :: rest) K σ := rk_wr hg hd' hd h hro hob hk
end steps
end Q3
open Q3
theorem fin9 {σ : St} {K : Nat → Bool} {p0 p1 p2 p3 p4 p5 p6 p7 : PVal} : All2 (FinC σ K) [.p p0, .p p1, .p p2, .p p3, .p p4, .p p5, .p p6, .p p7, .p (.v (.slice none 0 0))] [.p p0, .p p1, .p p2, .p p3, .p p4, .p p5, .p p6, .p p7, .p (.sl 4 (([] : List Ent).map eR) false)] :=
  .cons .p (.cons .p (.cons .p (.cons .p (.cons .p (.cons .p (.cons .p (.cons .p (.cons .nil .nil))))))))
theorem fin6 {σ : St} {K : Nat → Bool} {p0 p1 p2 p3 p4 : PVal} : All2 (FinC σ K) [.p p0, .p p1, .p p2, .p p3, .p p4, .p (.v (.slice none 0 0))] [.p p0, .p p1, .p p2, .p p3, .p p4, .p (.sl 2 (([] : List Dot).map dR) false)] :=
  .cons .p (.cons .p (.cons .p (.cons .p (.cons .p (.cons .nil .nil)))))
abbrev y6 (x : Evt) : List AC := [.p (.i x.1), .p (.i x.2.1), .p (.i x.2.2.1), .p (.i x.2.2.2.1.1), .p (.k .u64 x.2.2.2.1.2), .p (.sl 2 (x.2.2.2.2.map dR) false)]
end Go.Proofs.YtpmobjnaiaogbaaGreat.Cq
