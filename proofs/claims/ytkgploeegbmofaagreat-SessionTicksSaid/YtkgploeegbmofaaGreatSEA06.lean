/- carts: sorting entries and dots -/
import Derived.Test.YtkgploeegbmofaaGreatSEA04
import Derived.Test.YtkgploeegbmofaaGreatSEA03
import Derived.Test.YtkgploeegbmofaaGreatLy
import Derived.Test.YtkgploeegbmofaaGreatSEA02
namespace Go.Proofs.YtkgploeegbmofaaGreat.Ca
open Go Go.RowKit Go.Aw Go.Aw.Cart Go.Sort
set_option linter.unusedVariables false
set_option linter.unusedSimpArgs false
set_option maxRecDepth 8000
set_option maxHeartbeats 4000000
def encD (d:Dot):List Value:=[.int .i64 d.1,.int .u64 d.2]
instance {a b:Ent}:Decidable (ltE a b):=by unfold ltE;infer_instance
instance {a b:Dot}:Decidable (ltD a b):=by unfold ltD;infer_instance
theorem ltE_of {x y:Ent}:ltOf ordE x y=decide (ltE x y):=decide_eq_decide.2 ordE_lt
theorem ltD_of {x y:Dot}:ltOf cmpD x y=decide (ltD x y):=decide_eq_decide.2 cmpD_lt
theorem swoD:SWO (ltOf cmpD) where
 irrefl x:=by rw [ltD_of];exact decide_eq_false (by unfold ltD;omega)
 trans x y z h1 h2:=by
  rw [ltD_of] at *
  have k1:=of_decide_eq_true h1
  have k2:=of_decide_eq_true h2
  refine decide_eq_true ?_
  unfold ltD at *;omega
 ntrans x y z h1 h2:=by
  rw [ltD_of] at *
  have k1:=of_decide_eq_false h1
  have k2:=of_decide_eq_false h2
  refine decide_eq_false ?_
  unfold ltD at *;omega
theorem totE (x y:Ent) (h1:ltOf ordE x y=false) (h2:ltOf ordE y x=false):x=y:=by
 rw [ltE_of] at *
 have k1:=of_decide_eq_false h1
 have k2:=of_decide_eq_false h2
 obtain ⟨a,b,c,d⟩:=x
 obtain ⟨a',b',c',d'⟩:=y
 unfold ltE at *
 simp only at k1 k2
 simp only [Prod.mk.injEq];omega
theorem totD (x y:Dot) (h1:ltOf cmpD x y=false) (h2:ltOf cmpD y x=false):x=y:=by
 rw [ltD_of] at *
 have k1:=of_decide_eq_false h1
 have k2:=of_decide_eq_false h2
 obtain ⟨a,b⟩:=x
 obtain ⟨a',b'⟩:=y
 unfold ltD at *
 simp only at k1 k2
 simp only [Prod.mk.injEq];omega
def sortE (l:List Ent):List Ent:=l.mergeSort fun x y=>!(ltOf ordE) y x
def sortD (l:List Dot):List Dot:=l.mergeSort fun x y=>!(ltOf cmpD) y x
theorem sortD_o (n:Nat) (l:List Dot) (h:l.length≤1000000000):OCall Tryz.prog 186 [.o (.osl 1000 n 2 0 l.length),.p (.v (.func (.func 187) #[] #[]))] (memL [(1000,(n+1,some (.buf 179 2 (l.map dR))))]) (.tup []) (memL [(1000,(n+1,some (.buf 179 2 ((sortD l).map dR))))]):=
 sort_o (ρ:=Tryz.lay186_ren) Tryz.lay186 2 (by decide) (TI.run_isAgg (inferInstance:TI Tryz.prog 179 _ _ _)) (TI.run_sizeOf (inferInstance:TI Tryz.prog 179 _ _ _)) encD (fun _=>rfl)
  (fun x v hv=>by simp [encD] at hv;rcases hv with rfl|rfl<;>rfl) cmpD swoD totD 187 inferInstance (fun x y=>cmpD_w x y) _ n l (by omega)
instance {c g n:Nat} {l:List Dot}:OC Tryz.prog 186 [.o (.osl c g 2 0 l.length),.p (.v (.func (.func 187) #[] #[]))] [(c,(n,some (.buf 179 2 (l.map dR))))] [] (n=g+1∧l.length≤1000000000) (.tup []) [(c,(n,some (.buf 179 2 ((sortD l).map dR))))]:=⟨fun h=>by obtain ⟨rfl,h⟩:=h;exact (sortD_o g l h).one c⟩
theorem sortE_len (l:List Ent):(sortE l).length=l.length:=List.length_mergeSort ..
theorem sortD_len (l:List Dot):(sortD l).length=l.length:=List.length_mergeSort ..
end Go.Proofs.YtkgploeegbmofaaGreat.Ca
namespace Go.Proofs.YtkgploeegbmofaaGreat.Ca
open Go Go.RowKit Go.Aw Go.Aw.Cart
set_option linter.unusedVariables false
set_option linter.unusedSimpArgs false
set_option maxRecDepth 8000
set_option maxHeartbeats 4000000
theorem valuesD_w (l:List Dot) (ex:Bool):PCall Tryz.prog 172 [.p (.sl 2 (l.map dR) ex)] (.p (.fnv 189 [.bx [.sl 2 (l.map dR) ex] 0])):=by
 refine pcall_of Tryz.func172 rfl (fun w0 F S0 M0=>?_)
 repeat' (first|refine jx2 ?_|refine jy0 ?_ ?_|exact spF|refine spQ fun hq hq'=>?_|refine spN fun hn=>?_|fail)
 exact rt1 rfl rfl finS_p rfl
instance {l:List Dot} {ex:Bool}:PC Tryz.prog 172 [.p (.sl 2 (l.map dR) ex)] True (.p (.fnv 189 [.bx [.sl 2 (l.map dR) ex] 0])):=⟨fun _=>valuesD_w l ex⟩
theorem iterD_w (l:List Dot) (ex:Bool) (h:l.length≤1000000000):ICall Tryz.prog 189 [.bx [.sl 2 (l.map dR) ex] 0] (l.map dV):=by
 refine icall_of Tryz.func189 rfl (fun w0 F S0 M0 I yv hone hY=>?_)
 simp only [List.length_map]
 repeat' (first|refine jx2 ?_|refine jy0 ?_ ?_|exact spF|refine spQ fun hq hq'=>?_|refine spN fun hn=>?_|fail)
 refine aws_loopS [4,7,8,9,10,11,12,13,14,15] [1000,4] (fun (x:Nat × Option MO)=>[(7,.p (.i x.1))]) (fun x=>[(1000,(1,some (.abs (I x.1)))),(4,(x.1,x.2))])
  (fun x=>x.1≤l.length) (fun x=>l.length - x.1) (0,none) (Nat.zero_le _) (by exact knA) (by exact knA) ?_
 rintro ⟨i,c4⟩ β γ hi
 simp only at hi
 dsimp only
 by_cases hil:i < l.length
 ·have hd:decide ((i:Int) < (l.length:Int))=true:=decide_eq_true (by omega)
  have hy:=hY i (dV (l.getD (i:Int).toNat default)) (by rw [Int.toNat_natCast,List.getElem?_map,List.getD_eq_getElem?_getD,List.getElem?_eq_getElem hil];rfl)
  repeat' (first|refine jx2 ?_|refine jy0 ?_ ?_|exact spF|refine spQ fun hq hq'=>?_|refine spN fun hn=>?_|fail)
  exact ⟨(i+1,some (.box 179 (dL (l.getD (i:Int).toNat default)))),_,by dsimp only;omega,by dsimp only;omega,.refl,by exact frA⟩
 ·have hd:decide ((i:Int) < (l.length:Int))=false:=decide_eq_false (by omega)
  obtain rfl:i=l.length:=by omega
  repeat' (first|refine jx2 ?_|refine jy0 ?_ ?_|exact spF|refine spQ fun hq hq'=>?_|refine spN fun hn=>?_|fail)
  show RetO _ _ _ _ _ .normal _
  exact RetO.mk (res0 rfl rfl) ⟨.abs,trivial⟩
end Go.Proofs.YtkgploeegbmofaaGreat.Ca
namespace Go.Proofs.YtkgploeegbmofaaGreat.Ca
open Go Go.RowKit Go.Aw Go.Aw.Cart
set_option linter.unusedVariables false
set_option linter.unusedSimpArgs false
set_option maxRecDepth 8000
set_option maxHeartbeats 4000000
theorem Agr.put' {σ τ:St} {W M:List Nat} {o:Nat} {m:Nat × Option MO} (h:Agr σ W (o::M) τ):Agr (σ.put o m) W M (τ.put o m):=⟨h.env,fun t ht=>by
 by_cases e:t=o
 ·subst e;simp [St.put]
 ·have hb:Nat.beq t o=false:=Bool.eq_false_iff.2 (fun k=>e (Nat.eq_of_beq_eq_true k))
  have:=h.mem t (by simp only [memb,hb,ht,Bool.or_self])
  simp [St.put,e,this]⟩
namespace C5
end C5
open C5
end Go.Proofs.YtkgploeegbmofaaGreat.Ca
namespace Go.Proofs.YtkgploeegbmofaaGreat.Ca
open Go Go.RowKit Go.Aw Go.Aw.Cart
set_option linter.unusedVariables false
set_option linter.unusedSimpArgs false
set_option maxRecDepth 8000
set_option maxHeartbeats 4000000
end Go.Proofs.YtkgploeegbmofaaGreat.Ca
namespace Go.Proofs.YtkgploeegbmofaaGreat.Ca
open Go Go.RowKit Go.Aw Go.Aw.Cart
set_option linter.unusedVariables false
set_option linter.unusedSimpArgs false
set_option maxRecDepth 8000
set_option maxHeartbeats 4000000
def nodeF (n:Int):Bool:=decide (1≤n∧n≤8)
def dotF (d:Dot):Bool:=decide (1≤d.1∧d.1≤8∧0 < d.2)
def getF (v:List Int) (n:Int):Int:=if 1≤n∧n≤8 then v.getD (n - 1).toNat default else 0
def hasF (v:List Int) (d:Dot):Bool:=dotF d&&decide (d.2≤getF v d.1)
def entF (e:Ent):Bool:=decide (1≤e.1∧e.1≤60 ∧ -1000≤e.2.2.2∧e.2.2.2≤1000)
abbrev vV (v:List Int):AV:=.a (v.map fun n=>.p (.k .u64 n))
theorem isNode_w (n:Int):PCall Tryz.prog 168 [.p (.i n)] (.p (.b (nodeF n))):=by
 refine pcall_of Tryz.func168 rfl (fun w0 F S0 M0=>?_)
 unfold nodeF
 repeat' (first|refine jx2 ?_|refine jy0 ?_ ?_|exact spF|refine spQ fun hq hq'=>?_|refine spN fun hn=>?_|fail)
 all_goals refine rt1 rfl rfl finS_p (rb ?_)
 all_goals first|exact decide_eq_decide.2 (by omega)|exact decide_eq_true (by omega)|exact decide_eq_false (by omega)
instance {n:Int}:PC Tryz.prog 168 [.p (.i n)] True (.p (.b (nodeF n))):=⟨fun _=>isNode_w n⟩
theorem dotR_w (d:Dot):PCall Tryz.prog 143 [dV d] (.p (.b (dotF d))):=by
 refine pcall_of Tryz.func143 rfl (fun w0 F S0 M0=>?_)
 unfold dotF
 cases h:nodeF d.1 with
 | true=>
  have:=of_decide_eq_true h
  repeat' (first|refine jx2 ?_|refine jy0 ?_ ?_|exact spF|refine spQ fun hq hq'=>?_|refine spN fun hn=>?_|fail)
  refine rt1 rfl rfl finS_p (rb ?_)
  exact decide_eq_decide.2 (by omega)
 | false=>
  have:=of_decide_eq_false h
  repeat' (first|refine jx2 ?_|refine jy0 ?_ ?_|exact spF|refine spQ fun hq hq'=>?_|refine spN fun hn=>?_|fail)
  refine rt1 rfl rfl finS_p (rb ?_)
  exact decide_eq_false (by omega)
instance {d:Dot}:PC Tryz.prog 143 [dV d] True (.p (.b (dotF d))):=⟨fun _=>dotR_w d⟩
theorem get_w (v:List Int) (n:Int) (hv:v.length=8):PCall Tryz.prog 144 [vV v,.p (.i n)] (.p (.k .u64 (getF v n))):=by
 refine pcall_of Tryz.func144 rfl (fun w0 F S0 M0=>?_)
 unfold getF
 by_cases h:1≤n∧n≤8
 ·have hn:(!nodeF n)=false:=by rw [show nodeF n=true from decide_eq_true h];rfl
  rw [if_pos h]
  repeat' (first|refine jx2 ?_|refine jy0 ?_ ?_|exact spF|refine spQ fun hq hq'=>?_|refine spN fun hn=>?_|fail)
  exact rt1 rfl rfl finS_p rfl
 ·have hn:(!nodeF n)=true:=by rw [show nodeF n=false from decide_eq_false h];rfl
  rw [if_neg h]
  repeat' (first|refine jx2 ?_|refine jy0 ?_ ?_|exact spF|refine spQ fun hq hq'=>?_|refine spN fun hn=>?_|fail)
  exact rt1 rfl rfl finS_p rfl
instance {v:List Int} {n:Int}:PC Tryz.prog 144 [vV v,.p (.i n)] (v.length=8) (.p (.k .u64 (getF v n))):=⟨get_w v n⟩
theorem has_w (v:List Int) (d:Dot) (hv:v.length=8):PCall Tryz.prog 104 [vV v,dV d] (.p (.b (hasF v d))):=by
 refine pcall_of Tryz.func104 rfl (fun w0 F S0 M0=>?_)
 unfold hasF
 cases h:dotF d with
 | true=>
  repeat' (first|refine jx2 ?_|refine jy0 ?_ ?_|exact spF|refine spQ fun hq hq'=>?_|refine spN fun hn=>?_|fail)
  exact rt1 rfl rfl finS_p rfl
 | false=>
  repeat' (first|refine jx2 ?_|refine jy0 ?_ ?_|exact spF|refine spQ fun hq hq'=>?_|refine spN fun hn=>?_|fail)
  exact rt1 rfl rfl finS_p rfl
instance {v:List Int} {d:Dot}:PC Tryz.prog 104 [vV v,dV d] (v.length=8) (.p (.b (hasF v d))):=⟨has_w v d⟩
theorem isEntry_w (e:Ent):PCall Tryz.prog 103 [eV e] (.p (.b (entF e))):=by
 refine pcall_of Tryz.func103 rfl (fun w0 F S0 M0=>?_)
 unfold entF
 repeat' (first|refine jx2 ?_|refine jy0 ?_ ?_|exact spF|refine spQ fun hq hq'=>?_|refine spN fun hn=>?_|fail)
 all_goals refine rt1 rfl rfl finS_p (rb ?_)
 all_goals first|exact decide_eq_decide.2 (by omega)|exact decide_eq_true (by omega)|exact decide_eq_false (by omega)
instance {e:Ent}:PC Tryz.prog 103 [eV e] True (.p (.b (entF e))):=⟨fun _=>isEntry_w e⟩
def dotE (e:Ent):Dot:=(e.2.1,e.2.2.1)
theorem dot_w (e:Ent):PCall Tryz.prog 105 [eV e] (dV (dotE e)):=by
 refine pcall_of Tryz.func105 rfl (fun w0 F S0 M0=>?_)
 repeat' (first|refine jx2 ?_|refine jy0 ?_ ?_|exact spF|refine spQ fun hq hq'=>?_|refine spN fun hn=>?_|fail)
 exact rc1 rfl rfl rfl rfl rfl rfl finL_p rfl
instance {e:Ent}:PC Tryz.prog 105 [eV e] True (dV (dotE e)):=⟨fun _=>dot_w e⟩
end Go.Proofs.YtkgploeegbmofaaGreat.Ca
namespace Go.Proofs.YtkgploeegbmofaaGreat.Ca
open Go Go.RowKit Go.Aw Go.Aw.Cart
set_option linter.unusedVariables false
set_option linter.unusedSimpArgs false
set_option maxRecDepth 8000
set_option maxHeartbeats 4000000
class FP (P:Program) (f:FuncId) (caps:List PVal) (pre:outParam Prop) (p:outParam (Ent→Bool)):Prop where
 call:pre→∀ e,PCall P f ([eV e]++caps.map .p) (.p (.b (p e)))
namespace C8
end C8
open C8
end Go.Proofs.YtkgploeegbmofaaGreat.Ca
namespace Go.Proofs.YtkgploeegbmofaaGreat.Ca
open Go Go.RowKit Go.Aw Go.Aw.Cart
set_option linter.unusedVariables false
set_option linter.unusedSimpArgs false
set_option maxRecDepth 8000
set_option maxHeartbeats 4000000
end Go.Proofs.YtkgploeegbmofaaGreat.Ca
namespace Go.Proofs.YtkgploeegbmofaaGreat.Ca
open Go Go.RowKit Go.Aw Go.Aw.Cart
set_option linter.unusedVariables false
set_option linter.unusedSimpArgs false
set_option maxRecDepth 8000
set_option maxHeartbeats 4000000
namespace D
end D
end Go.Proofs.YtkgploeegbmofaaGreat.Ca
namespace Go.Proofs.YtkgploeegbmofaaGreat.Ca
open Go Go.RowKit Go.Aw Go.Aw.Cart
set_option linter.unusedVariables false
set_option linter.unusedSimpArgs false
set_option maxRecDepth 8000
set_option maxHeartbeats 4000000
namespace D
end D
namespace D2
end D2
end Go.Proofs.YtkgploeegbmofaaGreat.Ca
namespace Go.Proofs.YtkgploeegbmofaaGreat.Ca
open Go Go.RowKit Go.Aw Go.Aw.Cart
set_option linter.unusedVariables false
set_option linter.unusedSimpArgs false
set_option maxRecDepth 8000
set_option maxHeartbeats 4000000
end Go.Proofs.YtkgploeegbmofaaGreat.Ca
namespace Go.Proofs.YtkgploeegbmofaaGreat.Ca
open Go Go.RowKit Go.Aw Go.Aw.Cart
set_option linter.unusedVariables false
set_option linter.unusedSimpArgs false
set_option maxRecDepth 8000
set_option maxHeartbeats 4000000
namespace CU
end CU
open CU
end Go.Proofs.YtkgploeegbmofaaGreat.Ca
namespace Go.Proofs.YtkgploeegbmofaaGreat.Ca
open Go Go.RowKit Go.Aw Go.Aw.Cart
set_option linter.unusedVariables false
set_option linter.unusedSimpArgs false
set_option maxRecDepth 8000
set_option maxHeartbeats 4000000
theorem vEqE (a b:Ent):vEqB [.int .i64 a.1,.int .i64 a.2.1,.int .u64 a.2.2.1,.int .i64 a.2.2.2] [.int .i64 b.1,.int .i64 b.2.1,.int .u64 b.2.2.1,.int .i64 b.2.2.2]=decide (a=b):=by
 obtain ⟨a1,a2,a3,a4⟩:=a
 obtain ⟨b1,b2,b3,b4⟩:=b
 rw [Bool.eq_iff_iff]
 simp [vEqB,vEq]
theorem equalE_w (l m:List Ent) (ex ey:Bool) (h:l.length≤1000000000):PCall Tryz.prog 125 [.p (.sl 4 (l.map eR) ex),.p (.sl 4 (m.map eR) ey)] (.p (.b (decide (l=m)))):=by
 refine pcall_of Tryz.func125 rfl (fun w0 F S0 M0=>?_)
 by_cases hlm:l.length=m.length
 ·have d1:decide ((l.length:Int)≠(m.length:Int))=false:=decide_eq_false (by omega)
  repeat' (first|refine jx2 ?_|refine jy0 ?_ ?_|exact spF|refine spQ fun hq hq'=>?_|refine spN fun hn=>?_|fail)
  refine aws_loopS [4,5,13,14,15,16,17,18,19,20,21,22,23,24,25] [] (fun (i:Nat)=>[(13,.p (.i i))]) (fun _=>[]) (fun i=>i≤l.length∧∀ j,j < i→l.getD j default=m.getD j default) (fun i=>l.length - i) 0 ⟨Nat.zero_le _,fun j hj=>absurd hj (Nat.not_lt_zero _)⟩ (by exact knA) (by exact knA) ?_
  rintro i β γ ⟨hi,hx⟩
  by_cases hil:i < l.length
  ·have hlt:decide ((i:Int) < (l.length:Int))=true:=decide_eq_true (by omega)
   by_cases hv:l.getD (i:Int).toNat default=m.getD (i:Int).toNat default
   ·have hd:=vEqE (l.getD (i:Int).toNat default) (m.getD (i:Int).toNat default)
    rw [decide_eq_true hv] at hd
    have hd2:(!vEqB [.int .i64 (l.getD (i:Int).toNat default).1,.int .i64 (l.getD (i:Int).toNat default).2.1,.int .u64 (l.getD (i:Int).toNat default).2.2.1,.int .i64 (l.getD (i:Int).toNat default).2.2.2] [.int .i64 (m.getD (i:Int).toNat default).1,.int .i64 (m.getD (i:Int).toNat default).2.1,.int .u64 (m.getD (i:Int).toNat default).2.2.1,.int .i64 (m.getD (i:Int).toNat default).2.2.2])=false:=by rw [hd];rfl
    rw [Int.toNat_natCast] at hv
    repeat' (first|refine jx2 ?_|refine jy0 ?_ ?_|exact spF|refine spQ fun hq hq'=>?_|refine spN fun hn=>?_|fail)
    refine ⟨i+1,_,by omega,⟨by omega,fun j hj=>?_⟩,.refl,by exact frA⟩
    by_cases e:j=i
    ·rw [e];exact hv
    ·exact hx j (by omega)
   ·have hd:=vEqE (l.getD (i:Int).toNat default) (m.getD (i:Int).toNat default)
    rw [decide_eq_false hv] at hd
    have hd2:(!vEqB [.int .i64 (l.getD (i:Int).toNat default).1,.int .i64 (l.getD (i:Int).toNat default).2.1,.int .u64 (l.getD (i:Int).toNat default).2.2.1,.int .i64 (l.getD (i:Int).toNat default).2.2.2] [.int .i64 (m.getD (i:Int).toNat default).1,.int .i64 (m.getD (i:Int).toNat default).2.1,.int .u64 (m.getD (i:Int).toNat default).2.2.1,.int .i64 (m.getD (i:Int).toNat default).2.2.2])=true:=by rw [hd];rfl
    repeat' (first|refine jx2 ?_|refine jy0 ?_ ?_|exact spF|refine spQ fun hq hq'=>?_|refine spN fun hn=>?_|fail)
    refine rt1 rfl rfl finS_p (rb ?_)
    exact decide_eq_false fun q=>hv (by rw [q])
  ·have hlt:decide ((i:Int) < (l.length:Int))=false:=decide_eq_false (by omega)
   repeat' (first|refine jx2 ?_|refine jy0 ?_ ?_|exact spF|refine spQ fun hq hq'=>?_|refine spN fun hn=>?_|fail)
   refine rt1 rfl rfl finS_p (rb ?_)
   refine decide_eq_true (List.ext_getElem hlm fun j h1 h2=>?_)
   have:=hx j (by omega)
   rw [List.getD_eq_getElem?_getD,List.getD_eq_getElem?_getD,List.getElem?_eq_getElem h1,List.getElem?_eq_getElem h2] at this
   exact this
 ·have d1:decide ((l.length:Int)≠(m.length:Int))=true:=decide_eq_true (by omega)
  repeat' (first|refine jx2 ?_|refine jy0 ?_ ?_|exact spF|refine spQ fun hq hq'=>?_|refine spN fun hn=>?_|fail)
  refine rt1 rfl rfl finS_p (rb ?_)
  exact decide_eq_false fun q=>hlm (by rw [q])
instance {l m:List Ent} {ex ey:Bool}:PC Tryz.prog 125 [.p (.sl 4 (l.map eR) ex),.p (.sl 4 (m.map eR) ey)] (l.length≤1000000000) (.p (.b (decide (l=m)))):=⟨equalE_w l m ex ey⟩
end Go.Proofs.YtkgploeegbmofaaGreat.Ca
