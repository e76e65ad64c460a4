/- the reference, chapter 07: ops, which may be, which entries stay; ops and events as the reference's -/
import Derived.Test.YtcbhmngagibhmaaGreatPRC01
namespace Go.Proofs.YtcbhmngagibhmaaGreat.Cq
open Go Go.RowKit Go.Aw Go.Aw.Cart Go.Aw.Ord Go.Proofs.YtcbhmngagibhmaaGreat.Ca
set_option linter.unusedVariables false
set_option linter.unusedSimpArgs false
set_option maxRecDepth 8000
set_option maxHeartbeats 4000000
namespace Q2
theorem lopC {C:Ctx} {o:Oper} {σ:St} {e:Eff} {ro:Nat→Bool} (h:LOp C o σ e ro:=by
  first
   | exact Go.Proofs.YtcbhmngagibhmaaGreat.Cv.R9.lopC
   | (apply lop_build5;(focus rfl);(focus exact inferInstance);(focus exact inferInstance);(focus first|exact lk_m1 rfl|exact lk_m2 rfl|exact lk_m3 rfl|exact lk_o rfl|exact lk_a2 rfl|exact lk_a3 rfl|exact lk_a4 rfl|exact lk_a1 rfl|exact lk_a5 rfl|exact lk_a6 rfl|exact lk_a7 rfl|exact lk_a8 rfl|exact lk_a rfl);(focus first|exact lk_m1 rfl|exact lk_m2 rfl|exact lk_m3 rfl|exact lk_o rfl|exact lk_a2 rfl|exact lk_a3 rfl|exact lk_a4 rfl|exact lk_a1 rfl|exact lk_a5 rfl|exact lk_a6 rfl|exact lk_a7 rfl|exact lk_a8 rfl|exact lk_a rfl);(focus first|exact lk_m1 rfl|exact lk_m2 rfl|exact lk_m3 rfl|exact lk_o rfl|exact lk_a2 rfl|exact lk_a3 rfl|exact lk_a4 rfl|exact lk_a1 rfl|exact lk_a5 rfl|exact lk_a6 rfl|exact lk_a7 rfl|exact lk_a8 rfl|exact lk_a rfl);(focus first|exact lk_m1 rfl|exact lk_m2 rfl|exact lk_m3 rfl|exact lk_o rfl|exact lk_a2 rfl|exact lk_a3 rfl|exact lk_a4 rfl|exact lk_a1 rfl|exact lk_a5 rfl|exact lk_a6 rfl|exact lk_a7 rfl|exact lk_a8 rfl|exact lk_a rfl);(focus first|exact lk_m1 rfl|exact lk_m2 rfl|exact lk_m3 rfl|exact lk_o rfl|exact lk_a2 rfl|exact lk_a3 rfl|exact lk_a4 rfl|exact lk_a1 rfl|exact lk_a5 rfl|exact lk_a6 rfl|exact lk_a7 rfl|exact lk_a8 rfl|exact lk_a rfl);(focus decide);(focus first|exact sn2 rfl|exact sn3 rfl|exact sn4 rfl|exact sn1 rfl|exact sn5 rfl|exact sn6 rfl|exact sn7 rfl|exact sn8 rfl|exact sn9 rfl|exact sn10 rfl|exact sn11 rfl|exact sn12 rfl|rfl);(focus rfl))
   | (apply gField;(focus rfl);first|exact lop_fieldAddr_p rfl rfl (by decide) rfl rfl|exact lop_fieldAddr_bx rfl rfl (by decide) rfl rfl)
      | (apply lop_bsa;(focus rfl);(focus exact inferInstance);(focus exact inferInstance);(focus exact inferInstance);(focus repeat' (first|exact All2.nil|(apply bs_cons;(focus rfl);(focus rfl);(focus rfl))));(focus rfl);(focus decide);(focus first|decide|omega);(focus rfl);(focus rfl))
      | (apply lop_mfa1;(focus rfl);(focus rfl);(focus rfl);(focus rfl);(focus rfl);(focus rfl))
      | (apply lop_mfa2;(focus rfl);(focus rfl);(focus rfl);(focus rfl);(focus rfl);(focus rfl);(focus rfl);(focus rfl);(focus rfl);(focus decide);(focus rfl))
      | (apply lop_mfa3;(focus rfl);(focus rfl);(focus rfl);(focus rfl);(focus rfl);(focus rfl);(focus rfl);(focus rfl);(focus rfl);(focus rfl);(focus rfl);(focus rfl);(focus rfl);(focus decide);(focus decide);(focus decide);(focus rfl))
      | (apply gLoad;(focus rfl);apply lop_ld_bxp;(focus rfl);(focus exact inferInstance);(focus rfl);(focus rfl);(focus rfl);(focus rfl);(focus rfl))
   | (apply lop_call2;(focus rfl);(focus exact inferInstance);(focus first|exact lk_v8 (by assumption) rfl|exact lk_v8l rfl);(focus first|exact lk_v8 (by assumption) rfl|exact lk_v8l rfl);(focus exact inferInstance);(focus exact inferInstance);(focus first|exact True.intro|assumption|rfl|omega|((repeat' (first|assumption|refine And.intro ?_ ?_|omega|rfl));done)|fail);(focus rfl))
   | fail):LOp C o σ e ro:=h
section steps
variable {C:Ctx} {ops:Array Oper} {o:Oper} {rest:List Oper} {K:St→Prop} {σ:St} {e:Eff} {ro:Nat→Bool} {W:List (Nat × Nat)} {i:Nat}
theorem rnC {d:Nat} (hg:Guard ops σ o true:=by first|exact gd_n rfl rfl|exact gd_t rfl rfl rfl rfl|exact gd_t rfl rfl rfl (by assumption)) (hd:o.dst=some d:=by rfl) (h:LOp C o σ e ro:=by exact lopC) (hk:RunN C ops rest K (e.app (some d) σ)):RunN C ops (o::rest) K σ:=rn_any hg hd h hk
theorem rkC {d:Nat} (hg:Guard ops σ o true:=by first|exact gd_n rfl rfl|exact gd_t rfl rfl rfl rfl|exact gd_t rfl rfl rfl (by assumption)) (hd':o.dst=some d:=by rfl) (hd:dOk C o.dst=true:=by rfl) (h:LOp C o σ e ro:=by exact lopC) (hro:∀ x,ro x=true→okObj ops W i x=true:=by first|exact fun _=>ro_none|exact ro_one rfl|exact ro_k1 rfl|exact ro_one (by kernel_rfl)|exact ro_k1 (by kernel_rfl)|exact ro_kIn (by decide)) (hob:∀ p∈e.obj,(i,p.1)∈W:=by first|exact ob_none|exact ob_one (by decide)|decide) (hk:RunK C ops W (i+1) rest K (e.app (some d) σ)):RunK C ops W i (o::rest) K σ:=rk_wr hg hd' hd h hro hob hk
end steps
end Q2
open Q2
theorem may7_r (o:Op3):PCall Tryz.prog 116 [opV o] (.p (.b (mayF o))):=by
 refine pcall_of Tryz.func116 rfl (fun w0 F S0 M0=>?_)
 have key:∀ {P:Prop} [Decidable P],(P↔((o.1=4∧o.2.1=0∧o.2.2=0)∨(1≤o.2.1∧o.2.1≤60∧((o.1=1∧o.2.2≠0 ∧ -1000≤o.2.2∧o.2.2≤1000)∨(o.1=2∧0≤o.2.2∧o.2.2≤1000)∨(o.1=3∧o.2.2=0)))))→mayF o=decide P:=fun h=>decide_eq_decide.2 h.symm
 by_cases h1:o.1=1
 ·have k1:decide (o.1=1)=true:=decide_eq_true h1
  as_aux_lemma=>
   repeat' (first|refine jx2 ?_|refine jy0 ?_ ?_|exact spF|refine spQ fun hq hq'=>?_|refine spN fun hn=>?_|fail)
   all_goals refine rt1 rfl rfl finS_p (rb ?_)
   all_goals first|exact (key (by omega))|exact (key (by omega)).symm|exact decide_eq_true (by omega)|exact decide_eq_false (by omega)
 ·have k1:decide (o.1=1)=false:=decide_eq_false h1
  by_cases h2:o.1=2
  ·have k2:decide (o.1=2)=true:=decide_eq_true h2
   as_aux_lemma=>
    repeat' (first|refine jx2 ?_|refine jy0 ?_ ?_|exact spF|refine spQ fun hq hq'=>?_|refine spN fun hn=>?_|fail)
    all_goals refine rt1 rfl rfl finS_p (rb ?_)
    all_goals first|exact (key (by omega))|exact (key (by omega)).symm|exact decide_eq_true (by omega)|exact decide_eq_false (by omega)
  ·have k2:decide (o.1=2)=false:=decide_eq_false h2
   by_cases h3:o.1=3
   ·have k3:decide (o.1=3)=true:=decide_eq_true h3
    as_aux_lemma=>
     repeat' (first|refine jx2 ?_|refine jy0 ?_ ?_|exact spF|refine spQ fun hq hq'=>?_|refine spN fun hn=>?_|fail)
     all_goals refine rt1 rfl rfl finS_p (rb ?_)
     all_goals first|exact (key (by omega))|exact (key (by omega)).symm|exact decide_eq_true (by omega)|exact decide_eq_false (by omega)
   ·have k3:decide (o.1=3)=false:=decide_eq_false h3
    by_cases h4:o.1=4
    ·have k4:decide (o.1=4)=true:=decide_eq_true h4
     as_aux_lemma=>
      repeat' (first|refine jx2 ?_|refine jy0 ?_ ?_|exact spF|refine spQ fun hq hq'=>?_|refine spN fun hn=>?_|fail)
      all_goals refine rt1 rfl rfl finS_p (rb ?_)
      all_goals first|exact (key (by omega))|exact (key (by omega)).symm|exact decide_eq_true (by omega)|exact decide_eq_false (by omega)
    ·have k4:decide (o.1=4)=false:=decide_eq_false h4
     as_aux_lemma=>
      repeat' (first|refine jx2 ?_|refine jy0 ?_ ?_|exact spF|refine spQ fun hq hq'=>?_|refine spN fun hn=>?_|fail)
      all_goals refine rt1 rfl rfl finS_p (rb ?_)
      all_goals first|exact (key (by omega))|exact (key (by omega)).symm|exact decide_eq_true (by omega)|exact decide_eq_false (by omega)
end Go.Proofs.YtcbhmngagibhmaaGreat.Cq
