/- messages: with just what a kind has; a session's head; carts of a part's places -/
import Derived.Test.YtkgploeegbmofaaGreatSEA32
namespace Go.Proofs.YtkgploeegbmofaaGreat.Wi
open Go Go.RowKit Go.Aw Go.Aw.Cart Go.Aw.Tree Go.Proofs.YtkgploeegbmofaaGreat.Ca Go.Proofs.YtkgploeegbmofaaGreat.Rg
set_option linter.unusedVariables false
set_option linter.unusedSimpArgs false
set_option maxRecDepth 8000
set_option maxHeartbeats 4000000
def ownM (m:Msg):Msg where
 kind:=m.kind
 frm:=m.frm
 to:=m.to
 ses:=if m.kind=7 then 0 else m.ses
 part:=if m.kind=7 then 0 else m.part
 dig:=if m.kind=1 then m.dig else zeroD
 pls:=if m.kind=2∨m.kind=3∨m.kind=6∨m.kind=5 then m.pls else []
 dgs:=if m.kind=5 then m.dgs else []
 kds:=if m.kind=3∨m.kind=6∨m.kind=7 then m.kds else []
theorem own_in {m:Msg} (h:MIn m):MIn (ownM m):=by
 obtain ⟨h1,h2,h3,h4,h5,h6,h7,h8⟩:=h
 unfold ownM
 constructor<;>dsimp only<;>split
 any_goals assumption
 ·rfl
 ·intro c hc;rw [List.eq_of_mem_replicate hc];decide
 ·simp
 ·simp
 ·intro d hd;cases hd
 ·simp
 ·intro d hd;cases hd
 ·intro d hd;cases hd
theorem finM {σ:St} {K:Nat→Bool} {p0 p1 p2 p3 p4:PVal} {d:List Nat} {x y z x' y' z':AC} (h1:FinC σ K x x') (h2:FinC σ K y y') (h3:FinC σ K z z'):All2 (FinC σ K) (.p p0::.p p1::.p p2::.p p3::.p p4::(d.map bcD++[x,y,z])) (.p p0::.p p1::.p p2::.p p3::.p p4::(d.map bcD++[x',y',z'])):=by
 refine .cons .p (.cons .p (.cons .p (.cons .p (.cons .p ?_))))
 induction d with
 | nil=>exact .cons h1 (.cons h2 (.cons h3 .nil))
 | cons a d ih=>exact .cons .p ih
theorem lop_build5m {C:Ctx} {o:Oper} {σ:St} {T:TypeId} {x0 x1 x2 x3 x4:Operand} {p0 p1 p2 p3 p4:PVal} {fs:List (Nat × Nat)} {z:List Value} (ho:o.op=.build T #[(0,x0),(1,x1),(2,x2),(3,x3),(4,x4)]) (hF:TF C.P T fs) (hz:TZ C.P T z) (g0:σ.look x0=.p p0) (g1:σ.look x1=.p p1) (g2:σ.look x2=.p p2) (g3:σ.look x3=.p p3) (g4:σ.look x4=.p p4) (h1:z.all (·.oneCell')=true)
  (hb:bfill (fun i=>fs[i]?) (z.map fun v=>.p (.v v)) [(0,[.p p0]),(1,[.p p1]),(2,[.p p2]),(3,[.p p3]),(4,[.p p4])]=some (.p p0::.p p1::.p p2::.p p3::.p p4::(zeroD.map bcD++[.p (.v (.slice none 0 0)),.p (.v (.slice none 0 0)),.p (.v (.slice none 0 0))]))) (hd:dOk C o.dst=true) :
  LOp C o σ ⟨.a (.p p0::.p p1::.p p2::.p p3::.p p4::(zeroD.map bcD++[.p (.v (.slice none 0 0)),.p (.v (.slice none 0 0)),.p (.v (.slice none 0 0))])),[]⟩ (fun _=>false):=lop_build5 ho hF hz g0 g1 g2 g3 g4 h1 hb hd
namespace T4
theorem lopC {C:Ctx} {o:Oper} {σ:St} {e:Eff} {ro:Nat→Bool} (h:LOp C o σ e ro:=by
  first|(apply lop_build5m;(focus rfl);(focus exact inferInstance);(focus exact inferInstance);(focus rfl);(focus rfl);(focus rfl);(focus rfl);(focus rfl);(focus decide);(focus rfl);(focus rfl))|exact T3.lopC|fail):LOp C o σ e ro:=h
section steps
variable {C:Ctx} {ops:Array Oper} {o:Oper} {rest:List Oper} {K:St→Prop} {σ:St} {e:Eff} {ro:Nat→Bool} {W:List (Nat × Nat)} {i:Nat}
theorem rnC {d:Nat} (hg:Guard ops σ o true:=by first|exact gd_n rfl rfl|exact gd_t rfl rfl rfl rfl|exact gd_t rfl rfl rfl (by assumption)) (hd:o.dst=some d:=by rfl) (h:LOp C o σ e ro:=by exact lopC) (hk:RunN C ops rest K (e.app (some d) σ)):RunN C ops (o::rest) K σ:=rn_any hg hd h hk
theorem rkC {d:Nat} (hg:Guard ops σ o true:=by first|exact gd_n rfl rfl|exact gd_t rfl rfl rfl rfl|exact gd_t rfl rfl rfl (by assumption)) (hd':o.dst=some d:=by rfl) (hd:dOk C o.dst=true:=by rfl) (h:LOp C o σ e ro:=by exact lopC) (hro:∀ x,ro x=true→okObj ops W i x=true:=by first|exact fun _=>ro_none|exact ro_one rfl|exact ro_k1 rfl|exact ro_one (by kernel_rfl)|exact ro_k1 (by kernel_rfl)|exact ro_kIn (by decide)) (hob:∀ p∈e.obj,(i,p.1)∈W:=by first|exact ob_none|exact ob_one (by decide)|decide) (hk:RunK C ops W (i+1) rest K (e.app (some d) σ)):RunK C ops W i (o::rest) K σ:=rk_wr hg hd' hd h hro hob hk
end steps
end T4
open T4
theorem own_w (m:Msg) (hm:m.dig.length=32):PCall Tryz.prog 76 [mV m] (mV (ownM m)):=by
 refine pcall_of Tryz.func76 rfl (fun w0 F S0 M0=>?_)
 have h32:(m.dig.map bcD).length=32:=by rw [List.length_map];exact hm
 have hz32:(zeroD.map bcD).length=32:=rfl
 by_cases q1:m.kind=1
 ·have d1:decide (m.kind=1)=true:=decide_eq_true q1
  have e:ownM m=⟨m.kind,m.frm,m.to,m.ses,m.part,m.dig,[],[],[]⟩:=by simp [ownM,q1]
  rw [e]
  clear e
  as_aux_lemma=>
   repeat' (first|refine jx20 ?_|refine jy0 ?_ ?_|exact spF|refine spQ fun hq hq'=>?_|refine spN fun hn=>?_|fail)
   exact rc1 rfl rfl rfl rfl rfl (mlen h32) (finM .nil .nil .nil) rfl
 have d1:decide (m.kind=1)=false:=decide_eq_false q1
 by_cases q2:m.kind=2
 ·have d2:decide (m.kind=2)=true:=decide_eq_true q2
  have e:ownM m=⟨m.kind,m.frm,m.to,m.ses,m.part,zeroD,m.pls,[],[]⟩:=by simp [ownM,q2]
  rw [e]
  clear e
  as_aux_lemma=>
   repeat' (first|refine jx20 ?_|refine jy0 ?_ ?_|exact spF|refine spQ fun hq hq'=>?_|refine spN fun hn=>?_|fail)
   exact rc1 rfl rfl rfl rfl rfl (mlen hz32) (finM .p .nil .nil) rfl
 have d2:decide (m.kind=2)=false:=decide_eq_false q2
 by_cases q3:m.kind=3∨m.kind=6
 ·have e:ownM m=⟨m.kind,m.frm,m.to,m.ses,m.part,zeroD,m.pls,[],m.kds⟩:=by rcases q3 with q|q<;>simp [ownM,q]
  have d3:decide (m.kind=3)=true∨(decide (m.kind=3)=false∧decide (m.kind=6)=true):=by
   by_cases q:m.kind=3
   ·exact .inl (decide_eq_true q)
   ·exact .inr ⟨decide_eq_false q,decide_eq_true (q3.resolve_left q)⟩
  rw [e]
  clear e q3
  rcases d3 with d3 | ⟨d3,d6⟩
  all_goals
   repeat' (first|refine jx20 ?_|refine jy0 ?_ ?_|exact spF|refine spQ fun hq hq'=>?_|refine spN fun hn=>?_|fail)
   refine aws_draws [(5,3),(7,3)] mixed (by kernel_rfl) ?_
   repeat' (first|refine jx21 ?_|refine jy1 ?_ ?_|exact spF|refine spQ fun hq hq'=>?_|fail)
   as_aux_lemma=>
    repeat' (first|refine jx20 ?_|refine jy0 ?_ ?_|exact spF|refine spQ fun hq hq'=>?_|refine spN fun hn=>?_|fail)
    exact rc1 rfl rfl rfl rfl rfl (mlen hz32) (finM .p .nil .p) rfl
 have d3:decide (m.kind=3)=false:=decide_eq_false fun q=>q3 (.inl q)
 have d6:decide (m.kind=6)=false:=decide_eq_false fun q=>q3 (.inr q)
 by_cases q5:m.kind=5
 ·have d5:decide (m.kind=5)=true:=decide_eq_true q5
  have e:ownM m=⟨m.kind,m.frm,m.to,m.ses,m.part,zeroD,m.pls,m.dgs,[]⟩:=by simp [ownM,q5]
  rw [e]
  clear e
  repeat' (first|refine jx20 ?_|refine jy0 ?_ ?_|exact spF|refine spQ fun hq hq'=>?_|refine spN fun hn=>?_|fail)
  refine aws_draws [(5,3),(7,3)] mixed (by kernel_rfl) ?_
  repeat' (first|refine jx21 ?_|refine jy1 ?_ ?_|exact spF|refine spQ fun hq hq'=>?_|fail)
  as_aux_lemma=>
   repeat' (first|refine jx20 ?_|refine jy0 ?_ ?_|exact spF|refine spQ fun hq hq'=>?_|refine spN fun hn=>?_|fail)
   exact rc1 rfl rfl rfl rfl rfl (mlen hz32) (finM .p .p .nil) rfl
 have d5:decide (m.kind=5)=false:=decide_eq_false q5
 by_cases q7:m.kind=7
 ·have d7:decide (m.kind=7)=true:=decide_eq_true q7
  have e:ownM m=⟨m.kind,m.frm,m.to,0,0,zeroD,[],[],m.kds⟩:=by simp [ownM,q7]
  rw [e]
  clear e
  repeat' (first|refine jx20 ?_|refine jy0 ?_ ?_|exact spF|refine spQ fun hq hq'=>?_|refine spN fun hn=>?_|fail)
  refine aws_draws [(3,3),(5,3),(7,3)] mixed (by kernel_rfl) ?_
  repeat' (first|refine jx21 ?_|refine jy1 ?_ ?_|exact spF|refine spQ fun hq hq'=>?_|fail)
  as_aux_lemma=>
   repeat' (first|refine jx20 ?_|refine jy0 ?_ ?_|exact spF|refine spQ fun hq hq'=>?_|refine spN fun hn=>?_|fail)
   exact rc1 rfl rfl rfl rfl rfl (mlen hz32) (finM .nil .nil .p) rfl
 have d7:decide (m.kind=7)=false:=decide_eq_false q7
 have e:ownM m=⟨m.kind,m.frm,m.to,m.ses,m.part,zeroD,[],[],[]⟩:=by simp [ownM,q1,q2,q5,q7,show ¬ m.kind=3 from fun q=>q3 (.inl q),show ¬ m.kind=6 from fun q=>q3 (.inr q)]
 rw [e]
 clear e
 as_aux_lemma=>
  repeat' (first|refine jx20 ?_|refine jy0 ?_ ?_|exact spF|refine spQ fun hq hq'=>?_|refine spN fun hn=>?_|fail)
  exact rc1 rfl rfl rfl rfl rfl (mlen hz32) (finM .nil .nil .nil) rfl
def sesF (s p:Int):Bool:=decide (1≤s)&&(decide (s≤1099511627776)&&(decide (0≤p)&&decide (p < 8)))
theorem session_w (m:Msg):PCall Tryz.prog 74 [mV m] (.p (.b (sesF m.ses m.part))):=by
 refine pcall_of Tryz.func74 rfl (fun w0 F S0 M0=>?_)
 unfold sesF
 cases d1:decide (1≤m.ses) with
 | false=>
  as_aux_lemma=>
   repeat' (first|refine jx5 ?_|refine jy0 ?_ ?_|exact spF|refine spQ fun hq hq'=>?_|refine spN fun hn=>?_|fail)
   exact rt1 rfl rfl finS_p rfl
 | true=>
  cases d2:decide (m.ses≤1099511627776) with
  | false=>
   as_aux_lemma=>
    repeat' (first|refine jx5 ?_|refine jy0 ?_ ?_|exact spF|refine spQ fun hq hq'=>?_|refine spN fun hn=>?_|fail)
    exact rt1 rfl rfl finS_p rfl
  | true=>
   cases d3:decide (0≤m.part) with
   | false=>
    as_aux_lemma=>
     repeat' (first|refine jx5 ?_|refine jy0 ?_ ?_|exact spF|refine spQ fun hq hq'=>?_|refine spN fun hn=>?_|fail)
     exact rt1 rfl rfl finS_p rfl
   | true=>
    rw [Bool.true_and,Bool.true_and,Bool.true_and]
    as_aux_lemma=>
     repeat' (first|refine jx5 ?_|refine jy0 ?_ ?_|exact spF|refine spQ fun hq hq'=>?_|refine spN fun hn=>?_|fail)
     exact rt1 rfl rfl finS_p rfl
end Go.Proofs.YtkgploeegbmofaaGreat.Wi
