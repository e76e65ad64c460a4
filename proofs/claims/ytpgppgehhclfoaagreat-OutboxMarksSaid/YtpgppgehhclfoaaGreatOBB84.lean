/- carts: nodes, dots, entries, tallies // carts: the first entry of which something holds // carts: is there an entry of which something holds? -/
import Derived.Test.YtpgppgehhclfoaaGreatOBA08
import Derived.Test.YtpgppgehhclfoaaGreatOBA09
namespace Go.Proofs.YtpgppgehhclfoaaGreat.Ca
open Go Go.RowKit Go.Aw Go.Aw.Cart
set_option linter.unusedVariables false
set_option linter.unusedSimpArgs false
set_option maxRecDepth 8000
set_option maxHeartbeats 4000000
def nodeF (n:Int):Bool:=decide (1≤n∧n≤8)
def dotF (d:Dot):Bool:=decide (1≤d.1∧d.1≤8∧0 < d.2)
def getF (v:List Int) (n:Int):Int:=if 1≤n∧n≤8 then v.getD (n - 1).toNat default else 0
def hasF (v:List Int) (d:Dot):Bool:=dotF d&&decide (d.2≤getF v d.1)
def entF (e:Ent):Bool:=decide (1≤e.1∧e.1≤60 ∧ -1000≤e.2.2.2∧e.2.2.2≤1000)
abbrev vV (v:List Int):AV:=.a (v.map fun n=>.p (.k .u64 n))
theorem isNode_w (n:Int):PCall Tryz.prog 207 [.p (.i n)] (.p (.b (nodeF n))):=by
 refine pcall_of Tryz.func207 rfl (fun w0 F S0 M0=>?_)
 unfold nodeF
 repeat' (first|refine jx2 ?_|refine jy0 ?_ ?_|exact spF|refine spQ fun hq hq'=>?_|refine spN fun hn=>?_|fail)
 all_goals refine rt1 rfl rfl finS_p (rb ?_)
 all_goals first|exact decide_eq_decide.2 (by omega)|exact decide_eq_true (by omega)|exact decide_eq_false (by omega)
instance {n:Int}:PC Tryz.prog 207 [.p (.i n)] True (.p (.b (nodeF n))):=⟨fun _=>isNode_w n⟩
theorem dotR_w (d:Dot):PCall Tryz.prog 188 [dV d] (.p (.b (dotF d))):=by
 refine pcall_of Tryz.func188 rfl (fun w0 F S0 M0=>?_)
 unfold dotF
 cases h:nodeF d.1 with
 | true=>
  have:=of_decide_eq_true h
  repeat' (first|refine jx2 ?_|refine jy0 ?_ ?_|exact spF|refine spQ fun hq hq'=>?_|refine spN fun hn=>?_|fail)
  refine rt1 rfl rfl finS_p (rb ?_)
  exact decide_eq_decide.2 (by omega)
 | false=>
  have:=of_decide_eq_false h
  repeat' (first|refine jx2 ?_|refine jy0 ?_ ?_|exact spF|refine spQ fun hq hq'=>?_|refine spN fun hn=>?_|fail)
  refine rt1 rfl rfl finS_p (rb ?_)
  exact decide_eq_false (by omega)
instance {d:Dot}:PC Tryz.prog 188 [dV d] True (.p (.b (dotF d))):=⟨fun _=>dotR_w d⟩
theorem get_w (v:List Int) (n:Int) (hv:v.length=8):PCall Tryz.prog 189 [vV v,.p (.i n)] (.p (.k .u64 (getF v n))):=by
 refine pcall_of Tryz.func189 rfl (fun w0 F S0 M0=>?_)
 unfold getF
 by_cases h:1≤n∧n≤8
 ·have hn:(!nodeF n)=false:=by rw [show nodeF n=true from decide_eq_true h];rfl
  rw [if_pos h]
  repeat' (first|refine jx2 ?_|refine jy0 ?_ ?_|exact spF|refine spQ fun hq hq'=>?_|refine spN fun hn=>?_|fail)
  exact rt1 rfl rfl finS_p rfl
 ·have hn:(!nodeF n)=true:=by rw [show nodeF n=false from decide_eq_false h];rfl
  rw [if_neg h]
  repeat' (first|refine jx2 ?_|refine jy0 ?_ ?_|exact spF|refine spQ fun hq hq'=>?_|refine spN fun hn=>?_|fail)
  exact rt1 rfl rfl finS_p rfl
instance {v:List Int} {n:Int}:PC Tryz.prog 189 [vV v,.p (.i n)] (v.length=8) (.p (.k .u64 (getF v n))):=⟨get_w v n⟩
theorem has_w (v:List Int) (d:Dot) (hv:v.length=8):PCall Tryz.prog 172 [vV v,dV d] (.p (.b (hasF v d))):=by
 refine pcall_of Tryz.func172 rfl (fun w0 F S0 M0=>?_)
 unfold hasF
 cases h:dotF d with
 | true=>
  repeat' (first|refine jx2 ?_|refine jy0 ?_ ?_|exact spF|refine spQ fun hq hq'=>?_|refine spN fun hn=>?_|fail)
  exact rt1 rfl rfl finS_p rfl
 | false=>
  repeat' (first|refine jx2 ?_|refine jy0 ?_ ?_|exact spF|refine spQ fun hq hq'=>?_|refine spN fun hn=>?_|fail)
  exact rt1 rfl rfl finS_p rfl
instance {v:List Int} {d:Dot}:PC Tryz.prog 172 [vV v,dV d] (v.length=8) (.p (.b (hasF v d))):=⟨has_w v d⟩
theorem isEntry_w (e:Ent):PCall Tryz.prog 171 [eV e] (.p (.b (entF e))):=by
 refine pcall_of Tryz.func171 rfl (fun w0 F S0 M0=>?_)
 unfold entF
 repeat' (first|refine jx2 ?_|refine jy0 ?_ ?_|exact spF|refine spQ fun hq hq'=>?_|refine spN fun hn=>?_|fail)
 all_goals refine rt1 rfl rfl finS_p (rb ?_)
 all_goals first|exact decide_eq_decide.2 (by omega)|exact decide_eq_true (by omega)|exact decide_eq_false (by omega)
instance {e:Ent}:PC Tryz.prog 171 [eV e] True (.p (.b (entF e))):=⟨fun _=>isEntry_w e⟩
def dotE (e:Ent):Dot:=(e.2.1,e.2.2.1)
theorem dot_w (e:Ent):PCall Tryz.prog 173 [eV e] (dV (dotE e)):=by
 refine pcall_of Tryz.func173 rfl (fun w0 F S0 M0=>?_)
 repeat' (first|refine jx2 ?_|refine jy0 ?_ ?_|exact spF|refine spQ fun hq hq'=>?_|refine spN fun hn=>?_|fail)
 exact rc1 rfl rfl rfl rfl rfl rfl finL_p rfl
instance {e:Ent}:PC Tryz.prog 173 [eV e] True (dV (dotE e)):=⟨fun _=>dot_w e⟩
end Go.Proofs.YtpgppgehhclfoaaGreat.Ca
namespace Go.Proofs.YtpgppgehhclfoaaGreat.Ca
open Go Go.RowKit Go.Aw Go.Aw.Cart
set_option linter.unusedVariables false
set_option linter.unusedSimpArgs false
set_option maxRecDepth 8000
set_option maxHeartbeats 4000000
class FP (P:Program) (f:FuncId) (caps:List PVal) (pre:outParam Prop) (p:outParam (Ent→Bool)):Prop where
 call:pre→∀ e,PCall P f ([eV e]++caps.map .p) (.p (.b (p e)))
namespace C8
theorem lopC {C:Ctx} {o:Oper} {σ:St} {e:Eff} {ro:Nat→Bool} (h:LOp C o σ e ro:=by
  first|(apply lop_callv1;(focus rfl);(focus rfl);(focus assumption);(focus first|exact lk_o rfl|exact lk_a rfl);(focus exact inferInstance);(focus exact inferInstance);(focus exact True.intro);(focus rfl))|exact lopJ|fail):LOp C o σ e ro:=h
section steps
variable {C:Ctx} {ops:Array Oper} {o:Oper} {rest:List Oper} {K:St→Prop} {σ:St} {e:Eff} {ro:Nat→Bool} {W:List (Nat × Nat)} {i:Nat}
theorem rnC {d:Nat} (hg:Guard ops σ o true:=by first|exact gd_n rfl rfl|exact gd_t rfl rfl rfl rfl|exact gd_t rfl rfl rfl (by assumption)) (hd:o.dst=some d:=by rfl) (h:LOp C o σ e ro:=by exact lopC) (hk:RunN C ops rest K (e.app (some d) σ)):RunN C ops (o::rest) K σ:=rn_any hg hd h hk
end steps
end C8
open C8
end Go.Proofs.YtpgppgehhclfoaaGreat.Ca
namespace Go.Proofs.YtpgppgehhclfoaaGreat.Ca
open Go Go.RowKit Go.Aw Go.Aw.Cart
set_option linter.unusedVariables false
set_option linter.unusedSimpArgs false
set_option maxRecDepth 8000
set_option maxHeartbeats 4000000
end Go.Proofs.YtpgppgehhclfoaaGreat.Ca
namespace Go.Proofs.YtpgppgehhclfoaaGreat.Ca
open Go Go.RowKit Go.Aw Go.Aw.Cart
set_option linter.unusedVariables false
set_option linter.unusedSimpArgs false
set_option maxRecDepth 8000
set_option maxHeartbeats 4000000
theorem vEqE (a b:Ent):vEqB [.int .i64 a.1,.int .i64 a.2.1,.int .u64 a.2.2.1,.int .i64 a.2.2.2] [.int .i64 b.1,.int .i64 b.2.1,.int .u64 b.2.2.1,.int .i64 b.2.2.2]=decide (a=b):=by
 obtain ⟨a1,a2,a3,a4⟩:=a
 obtain ⟨b1,b2,b3,b4⟩:=b
 rw [Bool.eq_iff_iff]
 simp [vEqB,vEq]
theorem equalE_w (l m:List Ent) (ex ey:Bool) (h:l.length≤1000000000):PCall Tryz.prog 146 [.p (.sl 4 (l.map eR) ex),.p (.sl 4 (m.map eR) ey)] (.p (.b (decide (l=m)))):=by
 refine pcall_of Tryz.func146 rfl (fun w0 F S0 M0=>?_)
 by_cases hlm:l.length=m.length
 ·have d1:decide ((l.length:Int)≠(m.length:Int))=false:=decide_eq_false (by omega)
  repeat' (first|refine jx2 ?_|refine jy0 ?_ ?_|exact spF|refine spQ fun hq hq'=>?_|refine spN fun hn=>?_|fail)
  refine aws_loopS [4,5,13,14,15,16,17,18,19,20,21,22,23,24,25] [] (fun (i:Nat)=>[(13,.p (.i i))]) (fun _=>[]) (fun i=>i≤l.length∧∀ j,j < i→l.getD j default=m.getD j default) (fun i=>l.length - i) 0 ⟨Nat.zero_le _,fun j hj=>absurd hj (Nat.not_lt_zero _)⟩ (by exact knA) (by exact knA) ?_
  rintro i β γ ⟨hi,hx⟩
  by_cases hil:i < l.length
  ·have hlt:decide ((i:Int) < (l.length:Int))=true:=decide_eq_true (by omega)
   by_cases hv:l.getD (i:Int).toNat default=m.getD (i:Int).toNat default
   ·have hd:=vEqE (l.getD (i:Int).toNat default) (m.getD (i:Int).toNat default)
    rw [decide_eq_true hv] at hd
    have hd2:(!vEqB [.int .i64 (l.getD (i:Int).toNat default).1,.int .i64 (l.getD (i:Int).toNat default).2.1,.int .u64 (l.getD (i:Int).toNat default).2.2.1,.int .i64 (l.getD (i:Int).toNat default).2.2.2] [.int .i64 (m.getD (i:Int).toNat default).1,.int .i64 (m.getD (i:Int).toNat default).2.1,.int .u64 (m.getD (i:Int).toNat default).2.2.1,.int .i64 (m.getD (i:Int).toNat default).2.2.2])=false:=by rw [hd];rfl
    rw [Int.toNat_natCast] at hv
    repeat' (first|refine jx2 ?_|refine jy0 ?_ ?_|exact spF|refine spQ fun hq hq'=>?_|refine spN fun hn=>?_|fail)
    refine ⟨i+1,_,by omega,⟨by omega,fun j hj=>?_⟩,.refl,by exact frA⟩
    by_cases e:j=i
    ·rw [e];exact hv
    ·exact hx j (by omega)
   ·have hd:=vEqE (l.getD (i:Int).toNat default) (m.getD (i:Int).toNat default)
    rw [decide_eq_false hv] at hd
    have hd2:(!vEqB [.int .i64 (l.getD (i:Int).toNat default).1,.int .i64 (l.getD (i:Int).toNat default).2.1,.int .u64 (l.getD (i:Int).toNat default).2.2.1,.int .i64 (l.getD (i:Int).toNat default).2.2.2] [.int .i64 (m.getD (i:Int).toNat default).1,.int .i64 (m.getD (i:Int).toNat default).2.1,.int .u64 (m.getD (i:Int).toNat default).2.2.1,.int .i64 (m.getD (i:Int).toNat default).2.2.2])=true:=by rw [hd];rfl
    repeat' (first|refine jx2 ?_|refine jy0 ?_ ?_|exact spF|refine spQ fun hq hq'=>?_|refine spN fun hn=>?_|fail)
    refine rt1 rfl rfl finS_p (rb ?_)
    exact decide_eq_false fun q=>hv (by rw [q])
  ·have hlt:decide ((i:Int) < (l.length:Int))=false:=decide_eq_false (by omega)
   repeat' (first|refine jx2 ?_|refine jy0 ?_ ?_|exact spF|refine spQ fun hq hq'=>?_|refine spN fun hn=>?_|fail)
   refine rt1 rfl rfl finS_p (rb ?_)
   refine decide_eq_true (List.ext_getElem hlm fun j h1 h2=>?_)
   have:=hx j (by omega)
   rw [List.getD_eq_getElem?_getD,List.getD_eq_getElem?_getD,List.getElem?_eq_getElem h1,List.getElem?_eq_getElem h2] at this
   exact this
 ·have d1:decide ((l.length:Int)≠(m.length:Int))=true:=decide_eq_true (by omega)
  repeat' (first|refine jx2 ?_|refine jy0 ?_ ?_|exact spF|refine spQ fun hq hq'=>?_|refine spN fun hn=>?_|fail)
  refine rt1 rfl rfl finS_p (rb ?_)
  exact decide_eq_false fun q=>hlm (by rw [q])
instance {l m:List Ent} {ex ey:Bool}:PC Tryz.prog 146 [.p (.sl 4 (l.map eR) ex),.p (.sl 4 (m.map eR) ey)] (l.length≤1000000000) (.p (.b (decide (l=m)))):=⟨equalE_w l m ex ey⟩
end Go.Proofs.YtpgppgehhclfoaaGreat.Ca
