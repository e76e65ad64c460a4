/- carts: sorting entries and dots -/
import Derived.Test.YtcbhmngagibhmaaGreatPRA02
import Derived.Test.YtcbhmngagibhmaaGreatPRA03
import Derived.Test.YtcbhmngagibhmaaGreatLy
import Derived.Test.YtcbhmngagibhmaaGreatPRA04
import Derived.Lib.Overlaps
import Derived.Lib.AppendZerosOnto
import Derived.Test.YtcbhmngagibhmaaGreatPRA01
namespace Go.Proofs.YtcbhmngagibhmaaGreat.Ca
open Go Go.RowKit Go.Aw Go.Aw.Cart Go.Sort
set_option linter.unusedVariables false
set_option linter.unusedSimpArgs false
set_option maxRecDepth 8000
set_option maxHeartbeats 4000000
def encD (d:Dot):List Value:=[.int .i64 d.1,.int .u64 d.2]
instance {a b:Ent}:Decidable (ltE a b):=by unfold ltE;infer_instance
instance {a b:Dot}:Decidable (ltD a b):=by unfold ltD;infer_instance
theorem ltE_of {x y:Ent}:ltOf ordE x y=decide (ltE x y):=decide_eq_decide.2 ordE_lt
theorem ltD_of {x y:Dot}:ltOf cmpD x y=decide (ltD x y):=decide_eq_decide.2 cmpD_lt
theorem swoD:SWO (ltOf cmpD) where
 irrefl x:=by rw [ltD_of];exact decide_eq_false (by unfold ltD;omega)
 trans x y z h1 h2:=by
  rw [ltD_of] at *
  have k1:=of_decide_eq_true h1
  have k2:=of_decide_eq_true h2
  refine decide_eq_true ?_
  unfold ltD at *;omega
 ntrans x y z h1 h2:=by
  rw [ltD_of] at *
  have k1:=of_decide_eq_false h1
  have k2:=of_decide_eq_false h2
  refine decide_eq_false ?_
  unfold ltD at *;omega
theorem totE (x y:Ent) (h1:ltOf ordE x y=false) (h2:ltOf ordE y x=false):x=y:=by
 rw [ltE_of] at *
 have k1:=of_decide_eq_false h1
 have k2:=of_decide_eq_false h2
 obtain ⟨a,b,c,d⟩:=x
 obtain ⟨a',b',c',d'⟩:=y
 unfold ltE at *
 simp only at k1 k2
 simp only [Prod.mk.injEq];omega
theorem totD (x y:Dot) (h1:ltOf cmpD x y=false) (h2:ltOf cmpD y x=false):x=y:=by
 rw [ltD_of] at *
 have k1:=of_decide_eq_false h1
 have k2:=of_decide_eq_false h2
 obtain ⟨a,b⟩:=x
 obtain ⟨a',b'⟩:=y
 unfold ltD at *
 simp only at k1 k2
 simp only [Prod.mk.injEq];omega
def sortE (l:List Ent):List Ent:=l.mergeSort fun x y=>!(ltOf ordE) y x
def sortD (l:List Dot):List Dot:=l.mergeSort fun x y=>!(ltOf cmpD) y x
theorem sortD_o (n:Nat) (l:List Dot) (h:l.length≤1000000000):OCall Tryz.prog 239 [.o (.osl 1000 n 2 0 l.length),.p (.v (.func (.func 240) #[] #[]))] (memL [(1000,(n+1,some (.buf 244 2 (l.map dR))))]) (.tup []) (memL [(1000,(n+1,some (.buf 244 2 ((sortD l).map dR))))]):=
 sort_o (ρ:=Tryz.lay239_ren) Tryz.lay239 2 (by decide) (TI.run_isAgg (inferInstance:TI Tryz.prog 244 _ _ _)) (TI.run_sizeOf (inferInstance:TI Tryz.prog 244 _ _ _)) encD (fun _=>rfl)
  (fun x v hv=>by simp [encD] at hv;rcases hv with rfl|rfl<;>rfl) cmpD swoD totD 240 inferInstance (fun x y=>cmpD_w x y) _ n l (by omega)
instance {c g n:Nat} {l:List Dot}:OC Tryz.prog 239 [.o (.osl c g 2 0 l.length),.p (.v (.func (.func 240) #[] #[]))] [(c,(n,some (.buf 244 2 (l.map dR))))] [] (n=g+1∧l.length≤1000000000) (.tup []) [(c,(n,some (.buf 244 2 ((sortD l).map dR))))]:=⟨fun h=>by obtain ⟨rfl,h⟩:=h;exact (sortD_o g l h).one c⟩
theorem sortE_len (l:List Ent):(sortE l).length=l.length:=List.length_mergeSort ..
theorem sortD_len (l:List Dot):(sortD l).length=l.length:=List.length_mergeSort ..
end Go.Proofs.YtcbhmngagibhmaaGreat.Ca
namespace Go.Proofs.YtcbhmngagibhmaaGreat.Ca
open Go Go.RowKit Go.Aw Go.Aw.Cart
set_option linter.unusedVariables false
set_option linter.unusedSimpArgs false
set_option maxRecDepth 8000
set_option maxHeartbeats 4000000
theorem valuesD_w (l:List Dot) (ex:Bool):PCall Tryz.prog 226 [.p (.sl 2 (l.map dR) ex)] (.p (.fnv 242 [.bx [.sl 2 (l.map dR) ex] 0])):=by
 refine pcall_of Tryz.func226 rfl (fun w0 F S0 M0=>?_)
 repeat' (first|refine jx2 ?_|refine jy0 ?_ ?_|exact spF|refine spQ fun hq hq'=>?_|refine spN fun hn=>?_|fail)
 exact rt1 rfl rfl finS_p rfl
instance {l:List Dot} {ex:Bool}:PC Tryz.prog 226 [.p (.sl 2 (l.map dR) ex)] True (.p (.fnv 242 [.bx [.sl 2 (l.map dR) ex] 0])):=⟨fun _=>valuesD_w l ex⟩
theorem iterD_w (l:List Dot) (ex:Bool) (h:l.length≤1000000000):ICall Tryz.prog 242 [.bx [.sl 2 (l.map dR) ex] 0] (l.map dV):=by
 refine icall_of Tryz.func242 rfl (fun w0 F S0 M0 I yv hone hY=>?_)
 simp only [List.length_map]
 repeat' (first|refine jx2 ?_|refine jy0 ?_ ?_|exact spF|refine spQ fun hq hq'=>?_|refine spN fun hn=>?_|fail)
 refine aws_loopS [4,7,8,9,10,11,12,13,14,15] [1000,4] (fun (x:Nat × Option MO)=>[(7,.p (.i x.1))]) (fun x=>[(1000,(1,some (.abs (I x.1)))),(4,(x.1,x.2))])
  (fun x=>x.1≤l.length) (fun x=>l.length - x.1) (0,none) (Nat.zero_le _) (by exact knA) (by exact knA) ?_
 rintro ⟨i,c4⟩ β γ hi
 simp only at hi
 dsimp only
 by_cases hil:i < l.length
 ·have hd:decide ((i:Int) < (l.length:Int))=true:=decide_eq_true (by omega)
  have hy:=hY i (dV (l.getD (i:Int).toNat default)) (by rw [Int.toNat_natCast,List.getElem?_map,List.getD_eq_getElem?_getD,List.getElem?_eq_getElem hil];rfl)
  repeat' (first|refine jx2 ?_|refine jy0 ?_ ?_|exact spF|refine spQ fun hq hq'=>?_|refine spN fun hn=>?_|fail)
  exact ⟨(i+1,some (.box 244 (dL (l.getD (i:Int).toNat default)))),_,by dsimp only;omega,by dsimp only;omega,.refl,by exact frA⟩
 ·have hd:decide ((i:Int) < (l.length:Int))=false:=decide_eq_false (by omega)
  obtain rfl:i=l.length:=by omega
  repeat' (first|refine jx2 ?_|refine jy0 ?_ ?_|exact spF|refine spQ fun hq hq'=>?_|refine spN fun hn=>?_|fail)
  show RetO _ _ _ _ _ .normal _
  exact RetO.mk (res0 rfl rfl) ⟨.abs,trivial⟩
end Go.Proofs.YtcbhmngagibhmaaGreat.Ca
namespace Go.Proofs.YtcbhmngagibhmaaGreat.Ca
open Go Go.RowKit Go.Aw Go.Aw.Cart
set_option linter.unusedVariables false
set_option linter.unusedSimpArgs false
set_option maxRecDepth 8000
set_option maxHeartbeats 4000000
theorem lop_bst4 {C:Ctx} {o:Oper} {σ:St} {T e:TypeId} {x0:Operand} {sz by_ es be:Nat} {ke:TK} {z:List Value} {p0 p1 p2 p3:PVal} (ho:o.op=.buildSlice T 1 #[(0,x0)]) (hT:TI C.P T (.slice e) sz by_) (he:TI C.P e ke es be) (hz:TZ C.P e z) (h0:σ.look x0=.a [.p p0,.p p1,.p p2,.p p3]) (hes:es=4) (hd:dOk C o.dst=true) :
  LOp C o σ ⟨.p (.sl es [[p0,p1,p2,p3]] true),[]⟩ (fun _=>false):=by
 subst hes
 exact lop_buildSlice (ps:=[(0,[p0,p1,p2,p3])]) ho (.cons ⟨rfl,by simp,_,h0,by simp [SV.cells]⟩ .nil) rfl (by omega) (by omega) hd
theorem Agr.put' {σ τ:St} {W M:List Nat} {o:Nat} {m:Nat × Option MO} (h:Agr σ W (o::M) τ):Agr (σ.put o m) W M (τ.put o m):=⟨h.env,fun t ht=>by
 by_cases e:t=o
 ·subst e;simp [St.put]
 ·have hb:Nat.beq t o=false:=Bool.eq_false_iff.2 (fun k=>e (Nat.eq_of_beq_eq_true k))
  have:=h.mem t (by simp only [memb,hb,ht,Bool.or_self])
  simp [St.put,e,this]⟩
namespace C5
theorem lopC {C:Ctx} {o:Oper} {σ:St} {e:Eff} {ro:Nat→Bool} (h:LOp C o σ e ro:=by
  first|(apply lop_bst4;(focus rfl);(focus exact inferInstance);(focus exact inferInstance);(focus exact inferInstance);(focus rfl);(focus rfl);(focus rfl))|exact lopJ|fail):LOp C o σ e ro:=h
section steps
variable {C:Ctx} {ops:Array Oper} {o:Oper} {rest:List Oper} {K:St→Prop} {σ:St} {e:Eff} {ro:Nat→Bool} {W:List (Nat × Nat)} {i:Nat}
theorem rnC {d:Nat} (hg:Guard ops σ o true:=by first|exact gd_n rfl rfl|exact gd_t rfl rfl rfl rfl|exact gd_t rfl rfl rfl (by assumption)) (hd:o.dst=some d:=by rfl) (h:LOp C o σ e ro:=by exact lopC) (hk:RunN C ops rest K (e.app (some d) σ)):RunN C ops (o::rest) K σ:=rn_any hg hd h hk
end steps
end C5
open C5
end Go.Proofs.YtcbhmngagibhmaaGreat.Ca
namespace Go.Proofs.YtcbhmngagibhmaaGreat.Ca
open Go Go.RowKit Go.Aw Go.Aw.Cart
set_option linter.unusedVariables false
set_option linter.unusedSimpArgs false
set_option maxRecDepth 8000
set_option maxHeartbeats 4000000
end Go.Proofs.YtcbhmngagibhmaaGreat.Ca
namespace Go.Proofs.YtcbhmngagibhmaaGreat.Ca
open Go Go.RowKit Go.Aw Go.Aw.Cart
set_option linter.unusedVariables false
set_option linter.unusedSimpArgs false
set_option maxRecDepth 8000
set_option maxHeartbeats 4000000
def nodeF (n:Int):Bool:=decide (1≤n∧n≤8)
def dotF (d:Dot):Bool:=decide (1≤d.1∧d.1≤8∧0 < d.2)
def getF (v:List Int) (n:Int):Int:=if 1≤n∧n≤8 then v.getD (n - 1).toNat default else 0
def hasF (v:List Int) (d:Dot):Bool:=dotF d&&decide (d.2≤getF v d.1)
def entF (e:Ent):Bool:=decide (1≤e.1∧e.1≤60 ∧ -1000≤e.2.2.2∧e.2.2.2≤1000)
abbrev vV (v:List Int):AV:=.a (v.map fun n=>.p (.k .u64 n))
theorem isNode_w (n:Int):PCall Tryz.prog 222 [.p (.i n)] (.p (.b (nodeF n))):=by
 refine pcall_of Tryz.func222 rfl (fun w0 F S0 M0=>?_)
 unfold nodeF
 repeat' (first|refine jx2 ?_|refine jy0 ?_ ?_|exact spF|refine spQ fun hq hq'=>?_|refine spN fun hn=>?_|fail)
 all_goals refine rt1 rfl rfl finS_p (rb ?_)
 all_goals first|exact decide_eq_decide.2 (by omega)|exact decide_eq_true (by omega)|exact decide_eq_false (by omega)
instance {n:Int}:PC Tryz.prog 222 [.p (.i n)] True (.p (.b (nodeF n))):=⟨fun _=>isNode_w n⟩
theorem dotR_w (d:Dot):PCall Tryz.prog 203 [dV d] (.p (.b (dotF d))):=by
 refine pcall_of Tryz.func203 rfl (fun w0 F S0 M0=>?_)
 unfold dotF
 cases h:nodeF d.1 with
 | true=>
  have:=of_decide_eq_true h
  repeat' (first|refine jx2 ?_|refine jy0 ?_ ?_|exact spF|refine spQ fun hq hq'=>?_|refine spN fun hn=>?_|fail)
  refine rt1 rfl rfl finS_p (rb ?_)
  exact decide_eq_decide.2 (by omega)
 | false=>
  have:=of_decide_eq_false h
  repeat' (first|refine jx2 ?_|refine jy0 ?_ ?_|exact spF|refine spQ fun hq hq'=>?_|refine spN fun hn=>?_|fail)
  refine rt1 rfl rfl finS_p (rb ?_)
  exact decide_eq_false (by omega)
instance {d:Dot}:PC Tryz.prog 203 [dV d] True (.p (.b (dotF d))):=⟨fun _=>dotR_w d⟩
theorem get_w (v:List Int) (n:Int) (hv:v.length=8):PCall Tryz.prog 204 [vV v,.p (.i n)] (.p (.k .u64 (getF v n))):=by
 refine pcall_of Tryz.func204 rfl (fun w0 F S0 M0=>?_)
 unfold getF
 by_cases h:1≤n∧n≤8
 ·have hn:(!nodeF n)=false:=by rw [show nodeF n=true from decide_eq_true h];rfl
  rw [if_pos h]
  repeat' (first|refine jx2 ?_|refine jy0 ?_ ?_|exact spF|refine spQ fun hq hq'=>?_|refine spN fun hn=>?_|fail)
  exact rt1 rfl rfl finS_p rfl
 ·have hn:(!nodeF n)=true:=by rw [show nodeF n=false from decide_eq_false h];rfl
  rw [if_neg h]
  repeat' (first|refine jx2 ?_|refine jy0 ?_ ?_|exact spF|refine spQ fun hq hq'=>?_|refine spN fun hn=>?_|fail)
  exact rt1 rfl rfl finS_p rfl
instance {v:List Int} {n:Int}:PC Tryz.prog 204 [vV v,.p (.i n)] (v.length=8) (.p (.k .u64 (getF v n))):=⟨get_w v n⟩
theorem has_w (v:List Int) (d:Dot) (hv:v.length=8):PCall Tryz.prog 172 [vV v,dV d] (.p (.b (hasF v d))):=by
 refine pcall_of Tryz.func172 rfl (fun w0 F S0 M0=>?_)
 unfold hasF
 cases h:dotF d with
 | true=>
  repeat' (first|refine jx2 ?_|refine jy0 ?_ ?_|exact spF|refine spQ fun hq hq'=>?_|refine spN fun hn=>?_|fail)
  exact rt1 rfl rfl finS_p rfl
 | false=>
  repeat' (first|refine jx2 ?_|refine jy0 ?_ ?_|exact spF|refine spQ fun hq hq'=>?_|refine spN fun hn=>?_|fail)
  exact rt1 rfl rfl finS_p rfl
instance {v:List Int} {d:Dot}:PC Tryz.prog 172 [vV v,dV d] (v.length=8) (.p (.b (hasF v d))):=⟨has_w v d⟩
theorem isEntry_w (e:Ent):PCall Tryz.prog 171 [eV e] (.p (.b (entF e))):=by
 refine pcall_of Tryz.func171 rfl (fun w0 F S0 M0=>?_)
 unfold entF
 repeat' (first|refine jx2 ?_|refine jy0 ?_ ?_|exact spF|refine spQ fun hq hq'=>?_|refine spN fun hn=>?_|fail)
 all_goals refine rt1 rfl rfl finS_p (rb ?_)
 all_goals first|exact decide_eq_decide.2 (by omega)|exact decide_eq_true (by omega)|exact decide_eq_false (by omega)
instance {e:Ent}:PC Tryz.prog 171 [eV e] True (.p (.b (entF e))):=⟨fun _=>isEntry_w e⟩
def dotE (e:Ent):Dot:=(e.2.1,e.2.2.1)
theorem dot_w (e:Ent):PCall Tryz.prog 173 [eV e] (dV (dotE e)):=by
 refine pcall_of Tryz.func173 rfl (fun w0 F S0 M0=>?_)
 repeat' (first|refine jx2 ?_|refine jy0 ?_ ?_|exact spF|refine spQ fun hq hq'=>?_|refine spN fun hn=>?_|fail)
 exact rc1 rfl rfl rfl rfl rfl rfl finL_p rfl
instance {e:Ent}:PC Tryz.prog 173 [eV e] True (dV (dotE e)):=⟨fun _=>dot_w e⟩
end Go.Proofs.YtcbhmngagibhmaaGreat.Ca
namespace Go.Proofs.YtcbhmngagibhmaaGreat.Ca
open Go Go.RowKit Go.Aw Go.Aw.Cart
set_option linter.unusedVariables false
set_option linter.unusedSimpArgs false
set_option maxRecDepth 8000
set_option maxHeartbeats 4000000
class FP (P:Program) (f:FuncId) (caps:List PVal) (pre:outParam Prop) (p:outParam (Ent→Bool)):Prop where
 call:pre→∀ e,PCall P f ([eV e]++caps.map .p) (.p (.b (p e)))
namespace C8
theorem lopC {C:Ctx} {o:Oper} {σ:St} {e:Eff} {ro:Nat→Bool} (h:LOp C o σ e ro:=by
  first|(apply lop_callv1;(focus rfl);(focus rfl);(focus assumption);(focus first|exact lk_o rfl|exact lk_a rfl);(focus exact inferInstance);(focus exact inferInstance);(focus exact True.intro);(focus rfl))|exact lopJ|fail):LOp C o σ e ro:=h
section steps
variable {C:Ctx} {ops:Array Oper} {o:Oper} {rest:List Oper} {K:St→Prop} {σ:St} {e:Eff} {ro:Nat→Bool} {W:List (Nat × Nat)} {i:Nat}
theorem rnC {d:Nat} (hg:Guard ops σ o true:=by first|exact gd_n rfl rfl|exact gd_t rfl rfl rfl rfl|exact gd_t rfl rfl rfl (by assumption)) (hd:o.dst=some d:=by rfl) (h:LOp C o σ e ro:=by exact lopC) (hk:RunN C ops rest K (e.app (some d) σ)):RunN C ops (o::rest) K σ:=rn_any hg hd h hk
end steps
end C8
open C8
end Go.Proofs.YtcbhmngagibhmaaGreat.Ca
namespace Go.Proofs.YtcbhmngagibhmaaGreat.Ca
open Go Go.RowKit Go.Aw Go.Aw.Cart
set_option linter.unusedVariables false
set_option linter.unusedSimpArgs false
set_option maxRecDepth 8000
set_option maxHeartbeats 4000000
end Go.Proofs.YtcbhmngagibhmaaGreat.Ca
namespace Go.Proofs.YtcbhmngagibhmaaGreat.Ca
open Go Go.RowKit Go.Aw Go.Aw.Cart
set_option linter.unusedVariables false
set_option linter.unusedSimpArgs false
set_option maxRecDepth 8000
set_option maxHeartbeats 4000000
namespace D
theorem lopC {C:Ctx} {o:Oper} {σ:St} {e:Eff} {ro:Nat→Bool} (h:LOp C o σ e ro:=by
  first|(apply lop_callv1;(focus rfl);(focus rfl);(focus assumption);(focus first|exact lk_o rfl|exact lk_a rfl);(focus exact inferInstance);(focus exact inferInstance);(focus exact True.intro);(focus rfl))|exact lopQ|fail):LOp C o σ e ro:=h
section steps
variable {C:Ctx} {ops:Array Oper} {o:Oper} {rest:List Oper} {K:St→Prop} {σ:St} {e:Eff} {ro:Nat→Bool} {W:List (Nat × Nat)} {i:Nat}
theorem rnC {d:Nat} (hg:Guard ops σ o true:=by first|exact gd_n rfl rfl|exact gd_t rfl rfl rfl rfl|exact gd_t rfl rfl rfl (by assumption)) (hd:o.dst=some d:=by rfl) (h:LOp C o σ e ro:=by exact lopC) (hk:RunN C ops rest K (e.app (some d) σ)):RunN C ops (o::rest) K σ:=rn_any hg hd h hk
end steps
end D
end Go.Proofs.YtcbhmngagibhmaaGreat.Ca
namespace Go.Proofs.YtcbhmngagibhmaaGreat.Ca
open Go Go.RowKit Go.Aw Go.Aw.Cart
set_option linter.unusedVariables false
set_option linter.unusedSimpArgs false
set_option maxRecDepth 8000
set_option maxHeartbeats 4000000
namespace D
end D
namespace D2
theorem lopC {C:Ctx} {o:Oper} {σ:St} {e:Eff} {ro:Nat→Bool} (h:LOp C o σ e ro:=by
  first|(apply lop_bzE;(focus rfl);(focus exact inferInstance);(focus exact inferInstance);(focus exact inferInstance);(focus rfl);(focus rfl);(focus rfl);(focus rfl))|exact lopQ|fail):LOp C o σ e ro:=h
section steps
variable {C:Ctx} {ops:Array Oper} {o:Oper} {rest:List Oper} {K:St→Prop} {σ:St} {e:Eff} {ro:Nat→Bool} {W:List (Nat × Nat)} {i:Nat}
theorem rnC {d:Nat} (hg:Guard ops σ o true:=by first|exact gd_n rfl rfl|exact gd_t rfl rfl rfl rfl|exact gd_t rfl rfl rfl (by assumption)) (hd:o.dst=some d:=by rfl) (h:LOp C o σ e ro:=by exact lopC) (hk:RunN C ops rest K (e.app (some d) σ)):RunN C ops (o::rest) K σ:=rn_any hg hd h hk
end steps
end D2
end Go.Proofs.YtcbhmngagibhmaaGreat.Ca
namespace Go.Proofs.YtcbhmngagibhmaaGreat.Ca
open Go Go.RowKit Go.Aw Go.Aw.Cart
set_option linter.unusedVariables false
set_option linter.unusedSimpArgs false
set_option maxRecDepth 8000
set_option maxHeartbeats 4000000
end Go.Proofs.YtcbhmngagibhmaaGreat.Ca
namespace Go.Proofs.YtcbhmngagibhmaaGreat.Ca
open Go Go.RowKit Go.Aw Go.Aw.Cart
set_option linter.unusedVariables false
set_option linter.unusedSimpArgs false
set_option maxRecDepth 8000
set_option maxHeartbeats 4000000
namespace CU
theorem lopC {C:Ctx} {o:Oper} {σ:St} {e:Eff} {ro:Nat→Bool} (h:LOp C o σ e ro:=by
  first|exact lop_neg2 rfl rfl rfl (IntWalk.i64_in _ (by omega))|exact lopJ|fail):LOp C o σ e ro:=h
section steps
variable {C:Ctx} {ops:Array Oper} {o:Oper} {rest:List Oper} {K:St→Prop} {σ:St} {e:Eff} {ro:Nat→Bool} {W:List (Nat × Nat)} {i:Nat}
theorem rnC {d:Nat} (hg:Guard ops σ o true:=by first|exact gd_n rfl rfl|exact gd_t rfl rfl rfl rfl|exact gd_t rfl rfl rfl (by assumption)) (hd:o.dst=some d:=by rfl) (h:LOp C o σ e ro:=by exact lopC) (hk:RunN C ops rest K (e.app (some d) σ)):RunN C ops (o::rest) K σ:=rn_any hg hd h hk
end steps
end CU
open CU
end Go.Proofs.YtcbhmngagibhmaaGreat.Ca
namespace Go.Aw
open Go Go.RowKit
set_option linter.unusedVariables false
set_option linter.unusedSimpArgs false
def RV (r:AV):Prop:=∀ μ X Y v,r.holds μ X v→r.holds μ Y v
theorem RV.v {c:Value}:RV (.p (.v c)):=fun _ _ _ _ h=>h
theorem RV.a {cs:List AC} (h:∀ c∈cs,∃ x,c=.p (.v x)):RV (.a cs):=by
  rintro μ X Y v ⟨arr,rfl,h1⟩
  refine ⟨arr,rfl,h1.1,fun i c x hc hx=>?_⟩
  obtain ⟨y,rfl⟩:=h c (List.mem_of_getElem? hc)
  exact h1.2 i _ x hc hx
def Lnd (σ:St) (ob:Nat) (a b:AV):Prop:=
  Ent a b∨∃ g es n ty rows,a=.o (.osl ob g es 0 rows.length)∧σ.mem ob=(n,some (.buf ty es rows))∧n=g+1∧b=.p (.sl es rows false)
theorem lop_lend {C:Ctx} {o:Oper} {σ:St} {f:FuncId} {xs0:Array Operand} {ts:Array TypeId} {args:List AV} {r:AV} {ob:Nat} (hfn:FnT C.P f) (ho:o.op=.call ⟨.value (.func f),xs0,ts⟩)
    (hE:All2 (Lnd σ ob) (xs0.toList.map σ.look) args) (hc:PCall C.P f args r) (hr:RV r) (hd:dOk C o.dst=true):LOp C o σ ⟨r,[]⟩ (fun y=>y == ob):=by
  refine ⟨fun x m h=>by simp at h,fun τ hl hm a w ⟨G,h⟩ K Q hK=>?_⟩
  have hmo:τ.mem ob=σ.mem ob:=hm ob (by simp)
  have hE':All2 (Lnd τ ob) (xs0.toList.map τ.look) args:=by
    have:xs0.toList.map τ.look=xs0.toList.map σ.look:=List.map_congr_left fun x hx=>hl x (by rw [ho];simp [Op.operands,Call.operands];right;simpa using hx)
    rw [this]
    refine hE.mono fun a b k=>?_
    unfold Lnd at k ⊢
    rw [hmo];exact k
  have hS:Wd.le ⟨w,G.S⟩ ⟨w,fun b=>G.S b∨b∈G.φ ob⟩:=fun b hb=>⟨.inl hb,rfl⟩
  have hv:All2 (AV.holds Mu.none ⟨w,fun b=>G.S b∨b∈G.φ ob⟩) args (xs0.toList.map a.eval):=by
    refine ⟨by have:=hE'.1;simpa using this.symm,fun i av v hav hvv=>?_⟩
    rw [List.getElem?_map] at hvv
    cases hx:xs0.toList[i]? with
    | none=>rw [hx] at hvv;cases hvv
    | some x=>
      rw [hx] at hvv;simp at hvv;subst hvv
      rcases hE'.2 i (τ.look x) av (by simp [List.getElem?_map,hx]) hav with k | ⟨g,es,n,ty,rows,e1,e2,e3,e4⟩
      · exact (k _ _ _ (h.look x)).mono (Mu.le.refl _) hS
      · have hlk:=look_of h e1
        obtain ⟨m,c,p1,p2,p3⟩:=hlk
        obtain ⟨g',m',q1,q2,q3,q4,q5,q6⟩:=h.mem ob _ _ e2
        obtain rfl:g=g':=by omega
        rw [p1] at q2
        obtain rfl:=Option.some.inj q2
        subst e4
        refine ⟨m.map fun b=>(⟨b,0 * es,none⟩:Addr),c - 0,p3,by simpa using p2,by simpa using q4,by simp,?_⟩
        rcases q6 with ⟨r1,r2,_⟩ | ⟨b,arr,r1,r2,r3,r4,r5⟩
        · simp only at r1 r2 p2
          subst r1
          exact ⟨List.eq_nil_of_length_eq_zero (by omega),by simpa using r2⟩
        · simp only at r1
          subst r1
          refine .inr ⟨rfl,.inr (by rw [r2];simp),arr,ty,(0,0),r3,fun i row hrow=>⟨(r5 i row hrow).1,fun j p hp=>?_⟩⟩
          obtain ⟨z,hz,hz'⟩:=(r5 i row hrow).2 j p hp
          exact ⟨z,by simpa using hz,p.mono hS hz'⟩
  obtain ⟨fn,h1,h2,h3⟩:=hfn.fn
  have hrun:(execOp a.eval o).run C.P w=.ok (.enter f (xs0.map a.eval)) w:=by
    have e1:a.eval (.func f)=.func (.func f) #[] #[]:=rfl
    have hname : (fn.name == "runtime.NumGoroutine") = false := h2
    cases hbody:fn.body with
    | none=>simp [hbody] at h3
    | some c => simp [execOp, ho, resolve, e1, Deferred.ofValue, invoke, callFunc, program, Sem.run, Sem.run_bind, h1, hbody, pure, show ¬ fn.name = "runtime.NumGoroutine" from by simpa using hname]
  refine wpIn_exec (by rw [ho];intro c h;cases h) ?_
  rw [hrun,Oper.uponIn_enter]
  have h9:Calls C.P f (xs0.toList.map a.eval).toArray w fun
      | .returned v,w''=>K (a.put o.dst v) w''
      | .panicked chain,w''=>Q (.panic chain) a w''
      | .outgrown,_=>LetsOut Q:=by
    refine (hc w (fun b=>G.S b∨b∈G.φ ob) _ (fun b hb=>hb.elim (fun k=>(h.sbd b k).1) fun k=>(h.own ob b k).2) hv).mono ?_
    rintro e w' ⟨v,rfl,⟨S',hS1,hS2,hrr⟩,hb,hdr⟩
    have h1:=h.world (Quiet.of_below hb hdr) (fun b=>w.heap.size≤b∧b < w'.heap.size) (fun b hb=>hb)
    exact hK _ _ ⟨_,h1.setv hd ((hr _ _ _ _ hrr).mono (Mu.none_le _) (Wd.le.refl _))⟩
  have e:(xs0.toList.map a.eval).toArray=xs0.map a.eval:=by rw [← Array.toList_map]
  rw [e] at h9
  exact ⟨by simp [fz,Fence.wide],(callsIn_wide (n:=0)).2 h9⟩
theorem lop_lend1 {C:Ctx} {o:Oper} {σ:St} {f:FuncId} {x:Operand} {ts:Array TypeId} {r:AV} {pre:Prop} {ob g es n len:Nat} {ty:TypeId} {rows:List (List PVal)} (ho:o.op=.call ⟨.value (.func f),#[x],ts⟩) (hfn:FnT C.P f) (hx:σ.look x=.o (.osl ob g es 0 len)) (hm:σ.mem ob=(n,some (.buf ty es rows))) (hn:n=g+1) (hl:len=rows.length)
    (hc:PC C.P f [.p (.sl es rows false)] pre r) (hpre:pre) (hr:RV r) (hd:dOk C o.dst=true):LOp C o σ ⟨r,[]⟩ (fun y=>y == ob):=by
  subst hl
  exact lop_lend hfn ho (.cons (.inr ⟨g,es,n,ty,rows,hx,hm,hn,rfl⟩) .nil) (hc.call hpre) hr hd
theorem lop_lend2 {C:Ctx} {o:Oper} {σ:St} {f:FuncId} {x y:Operand} {ts:Array TypeId} {r ay:AV} {pre:Prop} {ob g es n len:Nat} {ty:TypeId} {rows:List (List PVal)} (ho:o.op=.call ⟨.value (.func f),#[x,y],ts⟩) (hfn:FnT C.P f) (hx:σ.look x=.o (.osl ob g es 0 len)) (hm:σ.mem ob=(n,some (.buf ty es rows))) (hn:n=g+1) (hl:len=rows.length)
    (hy:σ.look y=ay) (hp:PureAV ay) (hc:PC C.P f [.p (.sl es rows false),ay] pre r) (hpre:pre) (hr:RV r) (hd:dOk C o.dst=true):LOp C o σ ⟨r,[]⟩ (fun y=>y == ob):=by
  subst hl
  exact lop_lend hfn ho (.cons (.inr ⟨g,es,n,ty,rows,hx,hm,hn,rfl⟩) (.cons (.inl (by rw [hy];exact hp.pure)) .nil)) (hc.call hpre) hr hd
section ops
variable {C:Ctx} {o:Oper} {σ:St}
theorem lop_cap_asl {T e:TypeId} {x:Operand} {sz by_:Nat} {ob g off len cap:Nat} (ho:o.op=.call ⟨.builtin .cap,#[x],#[T]⟩) (hT:TI C.P T (.slice e) sz by_) (hx:σ.look x=.o (.asl ob g off len cap)) (hd:dOk C o.dst=true) :
  LOp C o σ ⟨.p (.v (.int .i64 cap)),[]⟩ (fun _=>false):=
 lop_val hd fun τ a w G hl' hm' h=>by
  obtain ⟨m,c,h0,h1⟩:=look_of h ((hl' x (by simp [ho,Op.operands,Call.operands])).trans hx)
  obtain ⟨d,hdd,hkk⟩:=hT.undd
  have:d=.slice e:=by cases d<;>simp [TK.of] at hkk;rw [hkk]
  subst this
  exact ⟨.int .i64 cap,by simp [execOp,ho,resolve,invoke,builtin,Builtin.cap_,h1,run_underlying hdd,goInt],rfl,rfl⟩
theorem slice_asl {T e:TypeId} {x:Operand} {lo hi:Option Operand} {sz by_:Nat} (hT:TI C.P T (.slice e) sz by_) {ke:TK} {sze be:Nat} (he:TI C.P e ke sze be) {ob g off len cap l h:Nat} (vlo vhi:Option (IntKind × Int))
  (ho:o.op=.slice T x lo hi none) (hx:σ.look x=.o (.asl ob g off len cap)) (hlo:lo.map σ.look=vlo.map fun p=>.p (.v (.int p.1 p.2))) (hhi:hi.map σ.look=vhi.map fun p=>.p (.v (.int p.1 p.2)))
  (hb:∀ w,(Instr.sliceBounds true len cap (vlo.map fun p=>.int p.1 p.2) (vhi.map fun p=>.int p.1 p.2) none).run C.P w=.ok (l,h,cap) w) (hlc:l < cap∨l=0) (hd:dOk C o.dst=true) :
  LOp C o σ ⟨.o (.asl ob g (off+l * sze) (h - l) (cap - l)),[]⟩ (fun _=>false):=
 lop_val hd fun τ a w G hl hm' hr=>by
  obtain ⟨b,c,h1,h2⟩:=look_of hr ((hl x (by simp [ho,Op.operands])).trans hx)
  have opt:∀ (q:Option Operand) (v:Option (IntKind × Int)),(∀ y,q=some y→y∈o.op.operands)→q.map σ.look=v.map (fun p=>AV.p (.v (.int p.1 p.2)))→q.map a.eval=v.map fun p=>Value.int p.1 p.2:=fun q v hq hv=>by
   cases q with
   | none=>cases v<;>simp_all
   | some y=>
    cases v with
    | none=>simp at hv
    | some p=>
     simp only [Option.map_some,Option.some.injEq] at hv ⊢
     exact val_of hr ((hl y (hq y rfl)).trans hv)
  have e1:=opt lo vlo (fun y hy=>by subst hy;simp [ho,Op.operands]) hlo
  have e2:=opt hi vhi (fun y hy=>by subst hy;simp [ho,Op.operands]) hhi
  obtain ⟨d,hdd,hkk⟩:=hT.undd
  have:d=.slice e:=by cases d<;>simp [TK.of] at hkk;rw [hkk]
  subst this
  refine ⟨.slice (some ⟨b,off+l * sze,none⟩) (h - l) (cap - l),?_,b,c,h1,rfl⟩
  have hbase:(if cap=l then (some ⟨b,off,none⟩:Option Addr) else (some (⟨b,off,none⟩:Addr)).map (·.add (l * sze)))=some ⟨b,off+l * sze,none⟩:=by
   by_cases hc:cap=l
   ·have:l=0:=by omega
    rw [if_pos hc,this,Nat.zero_mul,Nat.add_zero]
   ·rw [if_neg hc,Option.map_some,add_addr]
  simp only [execOp,ho,Instr.sliceAt,Sem.run_bind,run_underlying hdd,Result.andThen_ok,Instr.slice,h2,e1,e2,Option.map_none,hb,he.run_sizeOf,Sem.run_pure,hbase]
theorem lop_sl_asl_l {T e:TypeId} {x xl:Operand} {sz by_:Nat} {ke:TK} {sze be:Nat} {ob g off len cap:Nat} {kl:IntKind} {l:Int} (ho:o.op=.slice T x (some xl) none none) (hT:TI C.P T (.slice e) sz by_) (he:TI C.P e ke sze be) (hx:σ.look x=.o (.asl ob g off len cap)) (hlo:σ.look xl=.p (.v (.int kl l))) (h0:0≤l) (h1:l≤len) (h2:len≤cap) (h3:l.toNat < cap) (hd:dOk C o.dst=true) :
  LOp C o σ ⟨.o (.asl ob g (off+l.toNat * sze) (len - l.toNat) (cap - l.toNat)),[]⟩ (fun _=>false):=
 slice_asl hT he (some (kl,l)) none ho hx (by simp [hlo]) rfl (fun w=>by simp [Instr.sliceBounds,run_sb h0 h1]) (.inl h3) hd
theorem lop_sl_asl_h {T e:TypeId} {x xh:Operand} {sz by_:Nat} {ke:TK} {sze be:Nat} {ob g off len cap:Nat} {kh:IntKind} {h:Int} (ho:o.op=.slice T x none (some xh) none) (hT:TI C.P T (.slice e) sz by_) (he:TI C.P e ke sze be) (hx:σ.look x=.o (.asl ob g off len cap)) (hhi:σ.look xh=.p (.v (.int kh h))) (h0:0≤h) (h1:h≤cap) (hd:dOk C o.dst=true) :
  LOp C o σ ⟨.o (.asl ob g off h.toNat cap),[]⟩ (fun _=>false):=by
 have:=slice_asl (l:=0) (h:=h.toNat) hT he none (some (kh,h)) ho hx rfl (by simp [hhi]) (fun w=>by simp [Instr.sliceBounds,run_sb (y:=cap) h0 h1]) (.inr rfl) hd
 simpa using this
theorem lop_sl_osl_l {T e:TypeId} {x xl:Operand} {sz by_:Nat} {ke:TK} {sze be:Nat} {ob g len:Nat} {kl:IntKind} {l:Int} (ho:o.op=.slice T x (some xl) none none) (hT:TI C.P T (.slice e) sz by_) (he:TI C.P e ke sze be) (hx:σ.look x=.o (.osl ob g sze 0 len)) (hlo:σ.look xl=.p (.v (.int kl l))) (h0:0≤l) (h1:l < len) (hd:dOk C o.dst=true) :
  LOp C o σ ⟨.o (.osl ob g sze l.toNat (len - l.toNat)),[]⟩ (fun _=>false):=
 lop_val hd fun τ a w G hl hm' hr=>by
  obtain ⟨m,c,k1,k2,k3⟩:=look_of hr ((hl x (by simp [ho,Op.operands])).trans hx)
  have e1:=val_of hr ((hl xl (by simp [ho,Op.operands])).trans hlo)
  obtain ⟨d,hdd,hkk⟩:=hT.undd
  have:d=.slice e:=by cases d<;>simp [TK.of] at hkk;rw [hkk]
  subst this
  simp only [Nat.zero_mul,Nat.sub_zero,Nat.zero_add] at k2 k3
  refine ⟨.slice (m.map fun b=>⟨b,l.toNat * sze,none⟩) (len - l.toNat) (c - l.toNat),?_,m,c,k1,by omega,rfl⟩
  have hb:(Instr.sliceBounds true len c (some (.int kl l)) none none).run C.P w=.ok (l.toNat,len,c) w:=by simp [Instr.sliceBounds,run_sb h0 (show l≤len by omega)]
  have hne:¬ c=l.toNat:=by omega
  simp only [execOp,ho,Instr.sliceAt,Sem.run_bind,run_underlying hdd,Result.andThen_ok,Instr.slice,k3,e1,Option.map_some,Option.map_none,hb,he.run_sizeOf,Sem.run_pure,if_neg hne]
  cases m with
  | none=>rfl
  | some b=>simp only [Option.map_some,add_addr,Nat.zero_add]
theorem run_copy_es {P:Program} (w:World) (dT sT ty elem:TypeId) (g o dLen dCap:Nat) (a:Addr) (sLen sCap es:Nat) (cur:Array Value) (t:TypeId) (cs:List Value)
  (hu:P.underlying dT=some (.slice elem)) (hs:∀ w,(sizeOf elem).run P w=.ok es w)
  (hg:w.heap[g]?=some (.cells cur t (0,0))) (hn:cs.length=Nat.min sLen dLen * es)
  (hsrc:∀ j v,cs[j]?=some v→w.cell? (a.add j)=some v) (hfit:o+cs.length≤cur.size) (h1:∀ v∈cs,v.oneCell'=true) :
  (Builtin.copy_ #[dT,sT] ty #[.slice (some ⟨g,o,none⟩) dLen dCap,.slice (some a) sLen sCap]).run P w =
   .ok (goInt (Nat.min sLen dLen)) (w.setRow g (cur.toList.take o++cs++cur.toList.drop (o+cs.length)).toArray):=by
 have hl:=run_loadCells_list (P:=P) w a cs hsrc
 have hst:=run_storeCells_at P g o t cs 0 cur w hg (by simpa using hfit) h1
 simp only [Nat.add_zero] at hst
 simp [Builtin.copy_,run_underlying hu,Builtin.lenOf,Builtin.firstCells,hs,← hn,hl,hst]
def SrcN (C:Ctx) (σ:St) (x:Operand) (es L:Nat) (news:List (List PVal)) (ro:Nat→Bool):Prop:=
 ∀ τ a w G,τ.look x=σ.look x→(∀ y,ro y=true→τ.mem y=σ.mem y)→RelG C τ a w G→
  ∃ ad cap,a.eval x=.slice (some ad) L cap∧∀ i row,news[i]?=some row→row.length=es∧∀ j p,row[j]?=some p→∃ c,w.cell? (ad.add (i * es+j))=some c∧p.holds ⟨w,G.S⟩ c
theorem SrcOk.n {C:Ctx} {σ:St} {x:Operand} {es:Nat} {news:List (List PVal)} {ro:Nat→Bool} (h:SrcOk C σ x es news ro) (h0:0 < news.length):SrcN C σ x es news.length news ro:=fun τ a w G h1 h2 hr=>by
 obtain ⟨base,cap,e1,e2⟩:=h τ a w G h1 h2 hr
 cases base with
 | none=>simp only at e2;rw [e2] at h0;cases h0
 | some ad=>exact ⟨ad,cap,e1,e2⟩
end ops
end Go.Aw
namespace Go.Proofs.YtcbhmngagibhmaaGreat.Sh
open Go Go.RowKit Go.Aw Go.Aw.Sha
set_option linter.unusedVariables false
set_option linter.unusedSimpArgs false
set_option maxRecDepth 4000
theorem and31 (z:Int):0≤bits .and .u64 z 31∧bits .and .u64 z 31≤31:=by
 have e:bits .and .u64 z 31=(((BitVec.ofInt 64 z).toNat&&& 31:Nat):Int):=by
  have h1:(BitVec.ofInt 64 z&&& BitVec.ofInt 64 31).toNat=(BitVec.ofInt 64 z).toNat&&& 31:=by simp [BitVec.toNat_and]
  have h2:((BitVec.ofInt 64 z).toNat&&& 31)≤31:=Nat.and_le_right
  show IntKind.u64.wrap ((BitVec.ofInt 64 z&&& BitVec.ofInt 64 31).toNat:Int)=_
  rw [h1,wrap_md rfl,Nat.mod_eq_of_lt]
  exact Nat.lt_of_le_of_lt h2 (by decide)
 have h2:((BitVec.ofInt 64 z).toNat&&& 31)≤31:=Nat.and_le_right
 omega
theorem rotl_c (x:Nat) (k:Int):PCall Tryz.prog 244 [.p (.k .u32 (x:Int)),.p (.i k)] (.p (.k .u32 ((o32 ((x * 2 ^ (bits .and .u64 (IntKind.u64.wrap k) 31).toNat) % M) (x / 2 ^ ((32:Int) - bits .and .u64 (IntKind.u64.wrap k) 31).toNat):Nat):Int))):=by
 refine pcall_of Tryz.func244 rfl (fun w0 F S0 M0=>?_)
 have h31:=and31 (IntKind.u64.wrap k)
 repeat' (first|refine jx9 ?_|refine jy0 ?_ ?_|exact spF|refine spQ fun hq hq'=>?_|refine spN fun hn=>?_|fail)
 all_goals exact rt1 rfl rfl finS_p rfl
instance {x:Nat} {k:Int}:PC Tryz.prog 244 [.p (.k .u32 (x:Int)),.p (.i k)] True (.p (.k .u32 ((o32 ((x * 2 ^ (bits .and .u64 (IntKind.u64.wrap k) 31).toNat) % M) (x / 2 ^ ((32:Int) - bits .and .u64 (IntKind.u64.wrap k) 31).toNat):Nat):Int))):=⟨fun _=>rotl_c x k⟩
theorem turn_of:∀ n:Nat,n < 32→1≤n→bits .and .u64 (IntKind.u64.wrap (IntKind.i64.wrap (0 - (n:Int)))) 31=32 - (n:Int):=by decide
theorem o32_rot {x n:Nat} (hx:x < M):o32 ((x * 2 ^ (32 - n)) % M) (x / 2 ^ n)=rotr x n:=by
 unfold o32 rotr
 rw [Nat.mod_mod,Nat.mod_eq_of_lt (a:=x / 2 ^ n) (Nat.lt_of_le_of_lt (Nat.div_le_self _ _) hx),Nat.or_comm]
theorem right_c (x n:Nat) (h:x < M∧1≤n∧n≤31):PCall Tryz.prog 231 [.p (.k .u32 (x:Int)),.p (.i (n:Int))] (.p (.k .u32 ((rotr x n:Nat):Int))):=by
 refine pcall_of Tryz.func231 rfl (fun w0 F S0 M0=>?_)
 repeat' (first|refine jx9 ?_|refine jy0 ?_ ?_|exact spF|refine spQ fun hq hq'=>?_|refine spN fun hn=>?_|fail)
 refine rt1 rfl rfl finS_p (ri ?_)
 have e:=turn_of n (by omega) h.2.1
 have e1:(bits .and .u64 (IntKind.u64.wrap (IntKind.i64.wrap (0 - (n:Int)))) 31).toNat=32 - n:=by rw [e];omega
 have e2:((32:Int) - bits .and .u64 (IntKind.u64.wrap (IntKind.i64.wrap (0 - (n:Int)))) 31).toNat=n:=by rw [e];omega
 rw [e1,e2,o32_rot h.1]
instance {x:Nat} {k:Int}:PC Tryz.prog 231 [.p (.k .u32 (x:Int)),.p (.i k)] (x < M∧1≤k∧k≤31) (.p (.k .u32 ((rotr x k.toNat:Nat):Int))):=⟨fun h=>by
 have:=right_c x k.toNat ⟨h.1,by omega,by omega⟩
 rwa [show ((k.toNat:Nat):Int)=k by omega] at this⟩
abbrev wc (n:Nat):AC:=.p (.k .u32 (n:Int))
abbrev v8 (v:V8):List AC:=[wc v.a,wc v.b,wc v.c,wc v.d,wc v.e,wc v.f,wc v.g,wc v.h]
theorem first_c:PCall Tryz.prog 209 [] (.a (v8 firstV)):=by
 refine pcall_of Tryz.func209 rfl (fun w0 F S0 M0=>?_)
 repeat' (first|refine jx9 ?_|refine jy0 ?_ ?_|exact spF|refine spQ fun hq hq'=>?_|refine spN fun hn=>?_|fail)
 all_goals exact rc1 rfl rfl rfl rfl rfl rfl finL_p rfl
instance:PC Tryz.prog 209 [] True (.a (v8 firstV)):=⟨fun _=>first_c⟩
theorem consts_c:PCall Tryz.prog 229 [] (.a (consts.map wc)):=by
 refine pcall_of Tryz.func229 rfl (fun w0 F S0 M0=>?_)
 repeat' (first|refine jx9 ?_|refine jy0 ?_ ?_|exact spF|refine spQ fun hq hq'=>?_|refine spN fun hn=>?_|fail)
 all_goals exact rc1 rfl rfl rfl rfl rfl rfl finL_p rfl
instance:PC Tryz.prog 229 [] True (.a (consts.map wc)):=⟨fun _=>consts_c⟩
end Go.Proofs.YtcbhmngagibhmaaGreat.Sh
