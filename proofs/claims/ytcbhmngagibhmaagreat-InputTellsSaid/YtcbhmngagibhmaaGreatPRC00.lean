/- joins: vectors joined; entries found; which carts clash -/
import Derived.Test.YtcbhmngagibhmaaGreatPRA07
import Derived.Test.YtcbhmngagibhmaaGreatPRA04
namespace Go.Proofs.YtcbhmngagibhmaaGreat.Ca
open Go Go.RowKit Go.Aw Go.Aw.Cart Go.Aw.Ord Go.Sort
set_option linter.unusedVariables false
set_option linter.unusedSimpArgs false
set_option maxRecDepth 8000
set_option maxHeartbeats 4000000
abbrev cR (v:List Int) (l:List Ent) (ex:Bool):List PVal:=[.k .u64 (v.getD 0 default),.k .u64 (v.getD 1 default),.k .u64 (v.getD 2 default),.k .u64 (v.getD 3 default),.k .u64 (v.getD 4 default),.k .u64 (v.getD 5 default),.k .u64 (v.getD 6 default),.k .u64 (v.getD 7 default),.sl 4 (l.map eR) ex]
abbrev v8L (v:List Int):List AC:=[.p (.k .u64 (v.getD 0 default)),.p (.k .u64 (v.getD 1 default)),.p (.k .u64 (v.getD 2 default)),.p (.k .u64 (v.getD 3 default)),.p (.k .u64 (v.getD 4 default)),.p (.k .u64 (v.getD 5 default)),.p (.k .u64 (v.getD 6 default)),.p (.k .u64 (v.getD 7 default))]
/-! vectors -/
namespace J1
theorem lopC {C:Ctx} {o:Oper} {σ:St} {e:Eff} {ro:Nat→Bool} (h:LOp C o σ e ro:=by
  first
   | (apply gField;(focus rfl);first|exact lop_fieldAddr_p rfl rfl (by decide) rfl rfl|exact lop_fieldAddr_bx rfl rfl (by decide) rfl rfl)
      | (apply lop_bsa;(focus rfl);(focus exact inferInstance);(focus exact inferInstance);(focus exact inferInstance);(focus repeat' (first|exact All2.nil|(apply bs_cons;(focus rfl);(focus rfl);(focus rfl))));(focus rfl);(focus decide);(focus first|decide|omega);(focus rfl);(focus rfl))
      | (apply lop_mfa1;(focus rfl);(focus rfl);(focus rfl);(focus rfl);(focus rfl);(focus rfl))
      | (apply lop_mfa2;(focus rfl);(focus rfl);(focus rfl);(focus rfl);(focus rfl);(focus rfl);(focus rfl);(focus rfl);(focus rfl);(focus decide);(focus rfl))
      | (apply lop_mfa3;(focus rfl);(focus rfl);(focus rfl);(focus rfl);(focus rfl);(focus rfl);(focus rfl);(focus rfl);(focus rfl);(focus rfl);(focus rfl);(focus rfl);(focus rfl);(focus decide);(focus decide);(focus decide);(focus rfl))
      | (apply gLoad;(focus rfl);apply lop_ld_bxp;(focus rfl);(focus exact inferInstance);(focus rfl);(focus rfl);(focus rfl);(focus rfl);(focus rfl))
   | exact lopV
   | fail):LOp C o σ e ro:=h
section steps
variable {C:Ctx} {ops:Array Oper} {o:Oper} {rest:List Oper} {K:St→Prop} {σ:St} {e:Eff} {ro:Nat→Bool} {W:List (Nat × Nat)} {i:Nat}
theorem rnC {d:Nat} (hg:Guard ops σ o true:=by first|exact gd_n rfl rfl|exact gd_t rfl rfl rfl rfl|exact gd_t rfl rfl rfl (by assumption)) (hd:o.dst=some d:=by rfl) (h:LOp C o σ e ro:=by exact lopC) (hk:RunN C ops rest K (e.app (some d) σ)):RunN C ops (o::rest) K σ:=rn_any hg hd h hk
theorem rkC {d:Nat} (hg:Guard ops σ o true:=by first|exact gd_n rfl rfl|exact gd_t rfl rfl rfl rfl|exact gd_t rfl rfl rfl (by assumption)) (hd':o.dst=some d:=by rfl) (hd:dOk C o.dst=true:=by rfl) (h:LOp C o σ e ro:=by exact lopC) (hro:∀ x,ro x=true→okObj ops W i x=true:=by first|exact fun _=>ro_none|exact ro_one rfl|exact ro_one (by kernel_rfl)|exact ro_kIn (by decide)) (hob:∀ p∈e.obj,(i,p.1)∈W:=by first|exact ob_none|exact ob_one (by decide)|decide) (hk:RunK C ops W (i+1) rest K (e.app (some d) σ)):RunK C ops W i (o::rest) K σ:=rk_wr hg hd' hd h hro hob hk
end steps
end J1
open J1
/-! entries -/
/-! which clash -/
end Go.Proofs.YtcbhmngagibhmaaGreat.Ca
namespace Go.Proofs.YtcbhmngagibhmaaGreat.Ca
open Go Go.RowKit Go.Aw Go.Aw.Cart Go.Aw.Ord Go.Sort
set_option linter.unusedVariables false
set_option linter.unusedSimpArgs false
set_option maxRecDepth 8000
set_option maxHeartbeats 4000000
namespace E1
theorem lopC {C:Ctx} {o:Oper} {σ:St} {e:Eff} {ro:Nat→Bool} (h:LOp C o σ e ro:=by
  first
   | (apply gField;(focus rfl);first|exact lop_fieldAddr_p rfl rfl (by decide) rfl rfl|exact lop_fieldAddr_bx rfl rfl (by decide) rfl rfl)
      | (apply lop_bsa;(focus rfl);(focus exact inferInstance);(focus exact inferInstance);(focus exact inferInstance);(focus repeat' (first|exact All2.nil|(apply bs_cons;(focus rfl);(focus rfl);(focus rfl))));(focus rfl);(focus decide);(focus first|decide|omega);(focus rfl);(focus rfl))
      | (apply lop_mfa1;(focus rfl);(focus rfl);(focus rfl);(focus rfl);(focus rfl);(focus rfl))
      | (apply lop_mfa2;(focus rfl);(focus rfl);(focus rfl);(focus rfl);(focus rfl);(focus rfl);(focus rfl);(focus rfl);(focus rfl);(focus decide);(focus rfl))
      | (apply lop_mfa3;(focus rfl);(focus rfl);(focus rfl);(focus rfl);(focus rfl);(focus rfl);(focus rfl);(focus rfl);(focus rfl);(focus rfl);(focus rfl);(focus rfl);(focus rfl);(focus decide);(focus decide);(focus decide);(focus rfl))
      | (apply gLoad;(focus rfl);apply lop_ld_bxp;(focus rfl);(focus exact inferInstance);(focus rfl);(focus rfl);(focus rfl);(focus rfl);(focus rfl))
   | exact lopV
   | (apply lop_call2;(focus rfl);(focus exact inferInstance);(focus first|exact lk_v8 (by assumption) rfl|exact lk_v8l rfl);(focus first|exact lk_v8 (by assumption) rfl|exact lk_v8l rfl);(focus exact inferInstance);(focus exact inferInstance);(focus first|exact True.intro|assumption|rfl|omega|((repeat' (first|assumption|refine And.intro ?_ ?_|omega|rfl));done)|fail);(focus rfl))
   | fail):LOp C o σ e ro:=h
section steps
variable {C:Ctx} {ops:Array Oper} {o:Oper} {rest:List Oper} {K:St→Prop} {σ:St} {e:Eff} {ro:Nat→Bool} {W:List (Nat × Nat)} {i:Nat}
theorem rnC {d:Nat} (hg:Guard ops σ o true:=by first|exact gd_n rfl rfl|exact gd_t rfl rfl rfl rfl|exact gd_t rfl rfl rfl (by assumption)) (hd:o.dst=some d:=by rfl) (h:LOp C o σ e ro:=by exact lopC) (hk:RunN C ops rest K (e.app (some d) σ)):RunN C ops (o::rest) K σ:=rn_any hg hd h hk
theorem rkC {d:Nat} (hg:Guard ops σ o true:=by first|exact gd_n rfl rfl|exact gd_t rfl rfl rfl rfl|exact gd_t rfl rfl rfl (by assumption)) (hd':o.dst=some d:=by rfl) (hd:dOk C o.dst=true:=by rfl) (h:LOp C o σ e ro:=by exact lopC) (hro:∀ x,ro x=true→okObj ops W i x=true:=by first|exact fun _=>ro_none|exact ro_one rfl|exact ro_one (by kernel_rfl)|exact ro_kIn (by decide)) (hob:∀ p∈e.obj,(i,p.1)∈W:=by first|exact ob_none|exact ob_one (by decide)|decide) (hk:RunK C ops W (i+1) rest K (e.app (some d) σ)):RunK C ops W i (o::rest) K σ:=rk_wr hg hd' hd h hro hob hk
end steps
end E1
open E1
/-! ops -/
abbrev Op3:=Int × Int × Int
abbrev opL (o:Op3):List AC:=[.p (.i o.1),.p (.i o.2.1),.p (.i o.2.2)]
abbrev opR (o:Op3):List PVal:=[.i o.1,.i o.2.1,.i o.2.2]
abbrev opV (o:Op3):AV:=.a (opL o)
def mayF (o:Op3):Bool:=decide ((o.1=4∧o.2.1=0∧o.2.2=0)∨(1≤o.2.1∧o.2.1≤60∧((o.1=1∧o.2.2≠0 ∧ -1000≤o.2.2∧o.2.2≤1000)∨(o.1=2∧0≤o.2.2∧o.2.2≤1000)∨(o.1=3∧o.2.2=0))))
def goneF (o:Op3) (e:Ent):Bool:=decide (o.1=4∨(o.1≠1∧e.1=o.2.1))
def winF (n a b:Int):Bool:=decide (a≤n∧n≤b)
theorem within_e (n a b:Int):PCall Tryz.prog 165 [.p (.i n),.p (.i a),.p (.i b)] (.p (.b (winF n a b))):=by
 refine pcall_of Tryz.func165 rfl (fun w0 F S0 M0=>?_)
 unfold winF
 as_aux_lemma=>
  repeat' (first|refine jx2 ?_|refine jy0 ?_ ?_|exact spF|refine spQ fun hq hq'=>?_|refine spN fun hn=>?_|fail)
  all_goals refine rt1 rfl rfl finS_p (rb ?_)
  all_goals first|exact decide_eq_decide.2 (by omega)|exact decide_eq_true (by omega)|exact decide_eq_false (by omega)
instance {n a b:Int}:PC Tryz.prog 165 [.p (.i n),.p (.i a),.p (.i b)] True (.p (.b (winF n a b))):=⟨fun _=>within_e n a b⟩
theorem vEq3 (a b c d e f:Int):vEqB [.int .i64 a,.int .i64 b,.int .i64 c] [.int .i64 d,.int .i64 e,.int .i64 f]=decide (a=d∧b=e∧c=f):=by
 rw [Bool.eq_iff_iff,decide_eq_true_eq];simp [vEqB,vEq,and_assoc]
theorem may_w (o:Op3):PCall Tryz.prog 113 [opV o] (.p (.b (mayF o))):=by
 refine pcall_of Tryz.func113 rfl (fun w0 F S0 M0=>?_)
 by_cases h4:o.1=4
 ·have d1:decide (o.1=4)=true:=decide_eq_true h4
  have e:mayF o=vEqB [.int .i64 o.1,.int .i64 o.2.1,.int .i64 o.2.2] [.int .i64 4,.int .i64 0,.int .i64 0]:=by
   rw [vEq3];unfold mayF;exact decide_eq_decide.2 (by omega)
  rw [e]
  as_aux_lemma=>
   repeat' (first|refine jx6 ?_|refine jy0 ?_ ?_|exact spF|refine spQ fun hq hq'=>?_|refine spN fun hn=>?_|fail)
   exact rt1 rfl rfl finS_p rfl
 ·have d1:decide (o.1=4)=false:=decide_eq_false h4
  by_cases hi:1≤o.2.1∧o.2.1≤60
  ·have d2:(!winF o.2.1 1 60)=false:=by rw [show winF o.2.1 1 60=true from decide_eq_true hi];rfl
   by_cases h1:o.1=1
   ·have d3:decide (o.1=1)=true:=decide_eq_true h1
    by_cases hz:o.2.2=0
    ·have d4:decide (o.2.2≠0)=false:=decide_eq_false fun q=>q hz
     rw [show mayF o=false from decide_eq_false (by omega)]
     as_aux_lemma=>
      repeat' (first|refine jx6 ?_|refine jy0 ?_ ?_|exact spF|refine spQ fun hq hq'=>?_|refine spN fun hn=>?_|fail)
      exact rt1 rfl rfl finS_p rfl
    ·have d4:decide (o.2.2≠0)=true:=decide_eq_true hz
     rw [show mayF o=winF o.2.2 (-1000) 1000 from decide_eq_decide.2 (by omega)]
     as_aux_lemma=>
      repeat' (first|refine jx6 ?_|refine jy0 ?_ ?_|exact spF|refine spQ fun hq hq'=>?_|refine spN fun hn=>?_|fail)
      exact rt1 rfl rfl finS_p rfl
   ·have d3:decide (o.1=1)=false:=decide_eq_false h1
    by_cases h2:o.1=2
    ·have d4:decide (o.1=2)=true:=decide_eq_true h2
     rw [show mayF o=winF o.2.2 0 1000 from decide_eq_decide.2 (by omega)]
     as_aux_lemma=>
      repeat' (first|refine jx6 ?_|refine jy0 ?_ ?_|exact spF|refine spQ fun hq hq'=>?_|refine spN fun hn=>?_|fail)
      exact rt1 rfl rfl finS_p rfl
    ·have d4:decide (o.1=2)=false:=decide_eq_false h2
     by_cases h3:o.1=3
     ·have d5:decide (o.1=3)=true:=decide_eq_true h3
      rw [show mayF o=decide (o.2.2=0) from decide_eq_decide.2 (by omega)]
      as_aux_lemma=>
       repeat' (first|refine jx6 ?_|refine jy0 ?_ ?_|exact spF|refine spQ fun hq hq'=>?_|refine spN fun hn=>?_|fail)
       exact rt1 rfl rfl finS_p rfl
     ·have d5:decide (o.1=3)=false:=decide_eq_false h3
      rw [show mayF o=false from decide_eq_false (by omega)]
      as_aux_lemma=>
       repeat' (first|refine jx6 ?_|refine jy0 ?_ ?_|exact spF|refine spQ fun hq hq'=>?_|refine spN fun hn=>?_|fail)
       exact rt1 rfl rfl finS_p rfl
  ·have d2:(!winF o.2.1 1 60)=true:=by rw [show winF o.2.1 1 60=false from decide_eq_false hi];rfl
   rw [show mayF o=false from decide_eq_false (by omega)]
   as_aux_lemma=>
    repeat' (first|refine jx6 ?_|refine jy0 ?_ ?_|exact spF|refine spQ fun hq hq'=>?_|refine spN fun hn=>?_|fail)
    exact rt1 rfl rfl finS_p rfl
instance {o:Op3}:PC Tryz.prog 113 [opV o] True (.p (.b (mayF o))):=⟨fun _=>may_w o⟩
/-! vectors -/
theorem getF_in {v:List Int} (h:∀ n∈v,0≤n∧n < 18446744073709551616) (n:Int):0≤getF v n∧getF v n < 18446744073709551616:=by
 unfold getF
 split
 ·by_cases hi:(n - 1).toNat < v.length
  ·rw [getD_at hi];exact h _ (List.getElem_mem _)
  ·rw [List.getD_eq_getElem?_getD,List.getElem?_eq_none (by omega)]
   exact ⟨Int.le_refl _,by decide⟩
 ·omega
def withF (v:List Int) (d:Dot):List Int:=if nodeF d.1=true then v.set (d.1 - 1).toNat (if v.getD (d.1 - 1).toNat default < d.2 then d.2 else v.getD (d.1 - 1).toNat default) else v
/-! sets of dots -/
end Go.Proofs.YtcbhmngagibhmaaGreat.Ca
namespace Go.Proofs.YtcbhmngagibhmaaGreat.Ca
open Go Go.RowKit Go.Aw Go.Aw.Cart Go.Aw.Ord Go.Sort
set_option linter.unusedVariables false
set_option linter.unusedSimpArgs false
theorem few_of {l m:List Ent} (h:l.Nodup) (hs:∀ e∈l,e∈m):l.length≤m.length:=by
 induction l generalizing m with
 | nil=>exact Nat.zero_le _
 | cons x l ih=>
  obtain ⟨h1,h2⟩:=List.nodup_cons.1 h
  have hx:x∈m:=hs x List.mem_cons_self
  have:=ih (m:=m.erase x) h2 fun e he=>(List.mem_erase_of_ne (fun q=>h1 (by rw [← q];exact he))).2 (hs e (List.mem_cons_of_mem _ he))
  rw [List.length_erase_of_mem hx] at this
  have hp:=List.length_pos_of_mem hx
  rw [List.length_cons];omega
structure Uni (U:List Ent):Prop where
 one:∀ e∈U,∀ f∈U,dotE e=dotE f→e=f
 few:U.length≤400
structure In (U:List Ent) (x:Crt):Prop where
 v8:x.1.length=8
 pos:∀ n∈x.1,0≤n
 ok:Ok x.1 x.2
 sub:∀ e∈x.2,e∈U
section
variable {U:List Ent} (hU:Uni U)
include hU
theorem In.two {x y:Crt} (hx:In U x) (hy:In U y):Two x y where
 la:=hx.v8
 lb:=hy.v8
 oa:=hx.ok
 ob:=hy.ok
 nc e he f hf:=hU.one e (hx.sub e he) f (hy.sub f hf)
 few:=Nat.le_trans (few_of (bothF_nodup hx.ok hy.ok) fun e he=>by
  rcases both_mem.1 he with k|k
  ·exact hx.sub e k.1
  ·exact hy.sub e k.1) hU.few
omit hU in
theorem In.ext {x y:Crt} (hx:In U x) (hy:In U y) (h1:x.1=y.1) (h2:∀ e,e∈x.2↔e∈y.2):x=y:=Prod.ext h1 (ent_ext hx.ok.up hy.ok.up h2)
theorem In.mem {x y:Crt} (hx:In U x) (hy:In U y) {e:Ent}:e∈(twoF x y).1.2↔(e∈x.2∧(e∈y.2∨hasF y.1 (dotE e)=false))∨(e∈y.2∧hasF x.1 (dotE e)=false):=(hx.two hU hy).mem
theorem In.has {x y:Crt} (hx:In U x) (hy:In U y) (d:Dot):hasF (twoF x y).1.1 d=(hasF x.1 d||hasF y.1 d):=by
 rw [(hx.two hU hy).vec,has_max hx.v8 hy.v8]
omit hU in
theorem In.zero:In U (zeroV,[]) where
 v8:=rfl
 pos:=by decide
 ok:=⟨by simp,List.Pairwise.nil,fun e (h:e∈[])=>(by cases h),fun e (h:e∈[])=>(by cases h),fun e (h:e∈[])=>(by cases h)⟩
 sub e (h:e∈[]):=by cases h
end
end Go.Proofs.YtcbhmngagibhmaaGreat.Ca
