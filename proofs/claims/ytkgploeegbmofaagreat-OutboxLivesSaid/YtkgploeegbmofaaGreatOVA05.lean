/- carts: sorting entries and dots -/
import Derived.Test.YtkgploeegbmofaaGreatOVA02
import Derived.Test.YtkgploeegbmofaaGreatOVA52
import Derived.Test.YtkgploeegbmofaaGreatLy
import Derived.Test.YtkgploeegbmofaaGreatOVA03
import Derived.Test.YtkgploeegbmofaaGreatOVA01
namespace Go.Proofs.YtkgploeegbmofaaGreat.Ca
open Go Go.RowKit Go.Aw Go.Aw.Cart Go.Sort
set_option linter.unusedVariables false
set_option linter.unusedSimpArgs false
set_option maxRecDepth 8000
set_option maxHeartbeats 4000000
def encD (d:Dot):List Value:=[.int .i64 d.1,.int .u64 d.2]
instance {a b:Ent}:Decidable (ltE a b):=by unfold ltE;infer_instance
instance {a b:Dot}:Decidable (ltD a b):=by unfold ltD;infer_instance
theorem ltE_of {x y:Ent}:ltOf ordE x y=decide (ltE x y):=decide_eq_decide.2 ordE_lt
theorem ltD_of {x y:Dot}:ltOf cmpD x y=decide (ltD x y):=decide_eq_decide.2 cmpD_lt
theorem swoD:SWO (ltOf cmpD) where
 irrefl x:=by rw [ltD_of];exact decide_eq_false (by unfold ltD;omega)
 trans x y z h1 h2:=by
  rw [ltD_of] at *
  have k1:=of_decide_eq_true h1
  have k2:=of_decide_eq_true h2
  refine decide_eq_true ?_
  unfold ltD at *;omega
 ntrans x y z h1 h2:=by
  rw [ltD_of] at *
  have k1:=of_decide_eq_false h1
  have k2:=of_decide_eq_false h2
  refine decide_eq_false ?_
  unfold ltD at *;omega
theorem totE (x y:Ent) (h1:ltOf ordE x y=false) (h2:ltOf ordE y x=false):x=y:=by
 rw [ltE_of] at *
 have k1:=of_decide_eq_false h1
 have k2:=of_decide_eq_false h2
 obtain ⟨a,b,c,d⟩:=x
 obtain ⟨a',b',c',d'⟩:=y
 unfold ltE at *
 simp only at k1 k2
 simp only [Prod.mk.injEq];omega
theorem totD (x y:Dot) (h1:ltOf cmpD x y=false) (h2:ltOf cmpD y x=false):x=y:=by
 rw [ltD_of] at *
 have k1:=of_decide_eq_false h1
 have k2:=of_decide_eq_false h2
 obtain ⟨a,b⟩:=x
 obtain ⟨a',b'⟩:=y
 unfold ltD at *
 simp only at k1 k2
 simp only [Prod.mk.injEq];omega
def sortE (l:List Ent):List Ent:=l.mergeSort fun x y=>!(ltOf ordE) y x
def sortD (l:List Dot):List Dot:=l.mergeSort fun x y=>!(ltOf cmpD) y x
theorem sortD_o (n:Nat) (l:List Dot) (h:l.length≤1000000000):OCall Tryz.prog 186 [.o (.osl 1000 n 2 0 l.length),.p (.v (.func (.func 187) #[] #[]))] (memL [(1000,(n+1,some (.buf 179 2 (l.map dR))))]) (.tup []) (memL [(1000,(n+1,some (.buf 179 2 ((sortD l).map dR))))]):=
 sort_o (ρ:=Tryz.lay186_ren) Tryz.lay186 2 (by decide) (TI.run_isAgg (inferInstance:TI Tryz.prog 179 _ _ _)) (TI.run_sizeOf (inferInstance:TI Tryz.prog 179 _ _ _)) encD (fun _=>rfl)
  (fun x v hv=>by simp [encD] at hv;rcases hv with rfl|rfl<;>rfl) cmpD swoD totD 187 inferInstance (fun x y=>cmpD_w x y) _ n l (by omega)
instance {c g n:Nat} {l:List Dot}:OC Tryz.prog 186 [.o (.osl c g 2 0 l.length),.p (.v (.func (.func 187) #[] #[]))] [(c,(n,some (.buf 179 2 (l.map dR))))] [] (n=g+1∧l.length≤1000000000) (.tup []) [(c,(n,some (.buf 179 2 ((sortD l).map dR))))]:=⟨fun h=>by obtain ⟨rfl,h⟩:=h;exact (sortD_o g l h).one c⟩
theorem sortE_len (l:List Ent):(sortE l).length=l.length:=List.length_mergeSort ..
theorem sortD_len (l:List Dot):(sortD l).length=l.length:=List.length_mergeSort ..
end Go.Proofs.YtkgploeegbmofaaGreat.Ca
namespace Go.Proofs.YtkgploeegbmofaaGreat.Ca
open Go Go.RowKit Go.Aw Go.Aw.Cart
set_option linter.unusedVariables false
set_option linter.unusedSimpArgs false
set_option maxRecDepth 8000
set_option maxHeartbeats 4000000
theorem valuesD_w (l:List Dot) (ex:Bool):PCall Tryz.prog 172 [.p (.sl 2 (l.map dR) ex)] (.p (.fnv 189 [.bx [.sl 2 (l.map dR) ex] 0])):=by
 refine pcall_of Tryz.func172 rfl (fun w0 F S0 M0=>?_)
 repeat' (first|refine jx2 ?_|refine jy0 ?_ ?_|exact spF|refine spQ fun hq hq'=>?_|refine spN fun hn=>?_|fail)
 exact rt1 rfl rfl finS_p rfl
instance {l:List Dot} {ex:Bool}:PC Tryz.prog 172 [.p (.sl 2 (l.map dR) ex)] True (.p (.fnv 189 [.bx [.sl 2 (l.map dR) ex] 0])):=⟨fun _=>valuesD_w l ex⟩
theorem iterD_w (l:List Dot) (ex:Bool) (h:l.length≤1000000000):ICall Tryz.prog 189 [.bx [.sl 2 (l.map dR) ex] 0] (l.map dV):=by
 refine icall_of Tryz.func189 rfl (fun w0 F S0 M0 I yv hone hY=>?_)
 simp only [List.length_map]
 repeat' (first|refine jx2 ?_|refine jy0 ?_ ?_|exact spF|refine spQ fun hq hq'=>?_|refine spN fun hn=>?_|fail)
 refine aws_loopS [4,7,8,9,10,11,12,13,14,15] [1000,4] (fun (x:Nat × Option MO)=>[(7,.p (.i x.1))]) (fun x=>[(1000,(1,some (.abs (I x.1)))),(4,(x.1,x.2))])
  (fun x=>x.1≤l.length) (fun x=>l.length - x.1) (0,none) (Nat.zero_le _) (by exact knA) (by exact knA) ?_
 rintro ⟨i,c4⟩ β γ hi
 simp only at hi
 dsimp only
 by_cases hil:i < l.length
 ·have hd:decide ((i:Int) < (l.length:Int))=true:=decide_eq_true (by omega)
  have hy:=hY i (dV (l.getD (i:Int).toNat default)) (by rw [Int.toNat_natCast,List.getElem?_map,List.getD_eq_getElem?_getD,List.getElem?_eq_getElem hil];rfl)
  repeat' (first|refine jx2 ?_|refine jy0 ?_ ?_|exact spF|refine spQ fun hq hq'=>?_|refine spN fun hn=>?_|fail)
  exact ⟨(i+1,some (.box 179 (dL (l.getD (i:Int).toNat default)))),_,by dsimp only;omega,by dsimp only;omega,.refl,by exact frA⟩
 ·have hd:decide ((i:Int) < (l.length:Int))=false:=decide_eq_false (by omega)
  obtain rfl:i=l.length:=by omega
  repeat' (first|refine jx2 ?_|refine jy0 ?_ ?_|exact spF|refine spQ fun hq hq'=>?_|refine spN fun hn=>?_|fail)
  show RetO _ _ _ _ _ .normal _
  exact RetO.mk (res0 rfl rfl) ⟨.abs,trivial⟩
end Go.Proofs.YtkgploeegbmofaaGreat.Ca
namespace Go.Proofs.YtkgploeegbmofaaGreat.Ca
open Go Go.RowKit Go.Aw Go.Aw.Cart
set_option linter.unusedVariables false
set_option linter.unusedSimpArgs false
set_option maxRecDepth 8000
set_option maxHeartbeats 4000000
theorem lop_bst4 {C:Ctx} {o:Oper} {σ:St} {T e:TypeId} {x0:Operand} {sz by_ es be:Nat} {ke:TK} {z:List Value} {p0 p1 p2 p3:PVal} (ho:o.op=.buildSlice T 1 #[(0,x0)]) (hT:TI C.P T (.slice e) sz by_) (he:TI C.P e ke es be) (hz:TZ C.P e z) (h0:σ.look x0=.a [.p p0,.p p1,.p p2,.p p3]) (hes:es=4) (hd:dOk C o.dst=true) :
  LOp C o σ ⟨.p (.sl es [[p0,p1,p2,p3]] true),[]⟩ (fun _=>false):=by
 subst hes
 exact lop_buildSlice (ps:=[(0,[p0,p1,p2,p3])]) ho (.cons ⟨rfl,by simp,_,h0,by simp [SV.cells]⟩ .nil) rfl (by omega) (by omega) hd
theorem Agr.put' {σ τ:St} {W M:List Nat} {o:Nat} {m:Nat × Option MO} (h:Agr σ W (o::M) τ):Agr (σ.put o m) W M (τ.put o m):=⟨h.env,fun t ht=>by
 by_cases e:t=o
 ·subst e;simp [St.put]
 ·have hb:Nat.beq t o=false:=Bool.eq_false_iff.2 (fun k=>e (Nat.eq_of_beq_eq_true k))
  have:=h.mem t (by simp only [memb,hb,ht,Bool.or_self])
  simp [St.put,e,this]⟩
namespace C5
end C5
open C5
end Go.Proofs.YtkgploeegbmofaaGreat.Ca
namespace Go.Proofs.YtkgploeegbmofaaGreat.Ca
open Go Go.RowKit Go.Aw Go.Aw.Cart
set_option linter.unusedVariables false
set_option linter.unusedSimpArgs false
set_option maxRecDepth 8000
set_option maxHeartbeats 4000000
end Go.Proofs.YtkgploeegbmofaaGreat.Ca
namespace Go.Proofs.YtkgploeegbmofaaGreat.Ca
open Go Go.RowKit Go.Aw Go.Aw.Cart
set_option linter.unusedVariables false
set_option linter.unusedSimpArgs false
set_option maxRecDepth 8000
set_option maxHeartbeats 4000000
def nodeF (n:Int):Bool:=decide (1≤n∧n≤8)
def dotF (d:Dot):Bool:=decide (1≤d.1∧d.1≤8∧0 < d.2)
def getF (v:List Int) (n:Int):Int:=if 1≤n∧n≤8 then v.getD (n - 1).toNat default else 0
def hasF (v:List Int) (d:Dot):Bool:=dotF d&&decide (d.2≤getF v d.1)
def entF (e:Ent):Bool:=decide (1≤e.1∧e.1≤60 ∧ -1000≤e.2.2.2∧e.2.2.2≤1000)
abbrev vV (v:List Int):AV:=.a (v.map fun n=>.p (.k .u64 n))
theorem isNode_w (n:Int):PCall Tryz.prog 168 [.p (.i n)] (.p (.b (nodeF n))):=by
 refine pcall_of Tryz.func168 rfl (fun w0 F S0 M0=>?_)
 unfold nodeF
 repeat' (first|refine jx2 ?_|refine jy0 ?_ ?_|exact spF|refine spQ fun hq hq'=>?_|refine spN fun hn=>?_|fail)
 all_goals refine rt1 rfl rfl finS_p (rb ?_)
 all_goals first|exact decide_eq_decide.2 (by omega)|exact decide_eq_true (by omega)|exact decide_eq_false (by omega)
instance {n:Int}:PC Tryz.prog 168 [.p (.i n)] True (.p (.b (nodeF n))):=⟨fun _=>isNode_w n⟩
theorem dotR_w (d:Dot):PCall Tryz.prog 143 [dV d] (.p (.b (dotF d))):=by
 refine pcall_of Tryz.func143 rfl (fun w0 F S0 M0=>?_)
 unfold dotF
 cases h:nodeF d.1 with
 | true=>
  have:=of_decide_eq_true h
  repeat' (first|refine jx2 ?_|refine jy0 ?_ ?_|exact spF|refine spQ fun hq hq'=>?_|refine spN fun hn=>?_|fail)
  refine rt1 rfl rfl finS_p (rb ?_)
  exact decide_eq_decide.2 (by omega)
 | false=>
  have:=of_decide_eq_false h
  repeat' (first|refine jx2 ?_|refine jy0 ?_ ?_|exact spF|refine spQ fun hq hq'=>?_|refine spN fun hn=>?_|fail)
  refine rt1 rfl rfl finS_p (rb ?_)
  exact decide_eq_false (by omega)
instance {d:Dot}:PC Tryz.prog 143 [dV d] True (.p (.b (dotF d))):=⟨fun _=>dotR_w d⟩
theorem get_w (v:List Int) (n:Int) (hv:v.length=8):PCall Tryz.prog 144 [vV v,.p (.i n)] (.p (.k .u64 (getF v n))):=by
 refine pcall_of Tryz.func144 rfl (fun w0 F S0 M0=>?_)
 unfold getF
 by_cases h:1≤n∧n≤8
 ·have hn:(!nodeF n)=false:=by rw [show nodeF n=true from decide_eq_true h];rfl
  rw [if_pos h]
  repeat' (first|refine jx2 ?_|refine jy0 ?_ ?_|exact spF|refine spQ fun hq hq'=>?_|refine spN fun hn=>?_|fail)
  exact rt1 rfl rfl finS_p rfl
 ·have hn:(!nodeF n)=true:=by rw [show nodeF n=false from decide_eq_false h];rfl
  rw [if_neg h]
  repeat' (first|refine jx2 ?_|refine jy0 ?_ ?_|exact spF|refine spQ fun hq hq'=>?_|refine spN fun hn=>?_|fail)
  exact rt1 rfl rfl finS_p rfl
instance {v:List Int} {n:Int}:PC Tryz.prog 144 [vV v,.p (.i n)] (v.length=8) (.p (.k .u64 (getF v n))):=⟨get_w v n⟩
theorem has_w (v:List Int) (d:Dot) (hv:v.length=8):PCall Tryz.prog 104 [vV v,dV d] (.p (.b (hasF v d))):=by
 refine pcall_of Tryz.func104 rfl (fun w0 F S0 M0=>?_)
 unfold hasF
 cases h:dotF d with
 | true=>
  repeat' (first|refine jx2 ?_|refine jy0 ?_ ?_|exact spF|refine spQ fun hq hq'=>?_|refine spN fun hn=>?_|fail)
  exact rt1 rfl rfl finS_p rfl
 | false=>
  repeat' (first|refine jx2 ?_|refine jy0 ?_ ?_|exact spF|refine spQ fun hq hq'=>?_|refine spN fun hn=>?_|fail)
  exact rt1 rfl rfl finS_p rfl
instance {v:List Int} {d:Dot}:PC Tryz.prog 104 [vV v,dV d] (v.length=8) (.p (.b (hasF v d))):=⟨has_w v d⟩
theorem isEntry_w (e:Ent):PCall Tryz.prog 103 [eV e] (.p (.b (entF e))):=by
 refine pcall_of Tryz.func103 rfl (fun w0 F S0 M0=>?_)
 unfold entF
 repeat' (first|refine jx2 ?_|refine jy0 ?_ ?_|exact spF|refine spQ fun hq hq'=>?_|refine spN fun hn=>?_|fail)
 all_goals refine rt1 rfl rfl finS_p (rb ?_)
 all_goals first|exact decide_eq_decide.2 (by omega)|exact decide_eq_true (by omega)|exact decide_eq_false (by omega)
instance {e:Ent}:PC Tryz.prog 103 [eV e] True (.p (.b (entF e))):=⟨fun _=>isEntry_w e⟩
def dotE (e:Ent):Dot:=(e.2.1,e.2.2.1)
theorem dot_w (e:Ent):PCall Tryz.prog 105 [eV e] (dV (dotE e)):=by
 refine pcall_of Tryz.func105 rfl (fun w0 F S0 M0=>?_)
 repeat' (first|refine jx2 ?_|refine jy0 ?_ ?_|exact spF|refine spQ fun hq hq'=>?_|refine spN fun hn=>?_|fail)
 exact rc1 rfl rfl rfl rfl rfl rfl finL_p rfl
instance {e:Ent}:PC Tryz.prog 105 [eV e] True (dV (dotE e)):=⟨fun _=>dot_w e⟩
end Go.Proofs.YtkgploeegbmofaaGreat.Ca
namespace Go.Proofs.YtkgploeegbmofaaGreat.Ca
open Go Go.RowKit Go.Aw Go.Aw.Cart
set_option linter.unusedVariables false
set_option linter.unusedSimpArgs false
set_option maxRecDepth 8000
set_option maxHeartbeats 4000000
namespace C8
end C8
open C8
end Go.Proofs.YtkgploeegbmofaaGreat.Ca
namespace Go.Proofs.YtkgploeegbmofaaGreat.Ca
open Go Go.RowKit Go.Aw Go.Aw.Cart
set_option linter.unusedVariables false
set_option linter.unusedSimpArgs false
set_option maxRecDepth 8000
set_option maxHeartbeats 4000000
end Go.Proofs.YtkgploeegbmofaaGreat.Ca
namespace Go.Proofs.YtkgploeegbmofaaGreat.Ca
open Go Go.RowKit Go.Aw Go.Aw.Cart
set_option linter.unusedVariables false
set_option linter.unusedSimpArgs false
set_option maxRecDepth 8000
set_option maxHeartbeats 4000000
namespace D
end D
end Go.Proofs.YtkgploeegbmofaaGreat.Ca
namespace Go.Proofs.YtkgploeegbmofaaGreat.Ca
open Go Go.RowKit Go.Aw Go.Aw.Cart
set_option linter.unusedVariables false
set_option linter.unusedSimpArgs false
set_option maxRecDepth 8000
set_option maxHeartbeats 4000000
namespace D
end D
namespace D2
end D2
end Go.Proofs.YtkgploeegbmofaaGreat.Ca
namespace Go.Proofs.YtkgploeegbmofaaGreat.Ca
open Go Go.RowKit Go.Aw Go.Aw.Cart
set_option linter.unusedVariables false
set_option linter.unusedSimpArgs false
set_option maxRecDepth 8000
set_option maxHeartbeats 4000000
end Go.Proofs.YtkgploeegbmofaaGreat.Ca
namespace Go.Proofs.YtkgploeegbmofaaGreat.Ca
open Go Go.RowKit Go.Aw Go.Aw.Cart
set_option linter.unusedVariables false
set_option linter.unusedSimpArgs false
set_option maxRecDepth 8000
set_option maxHeartbeats 4000000
namespace CU
end CU
open CU
end Go.Proofs.YtkgploeegbmofaaGreat.Ca
namespace Go.Aw
open Go Go.RowKit
set_option linter.unusedVariables false
set_option linter.unusedSimpArgs false
def RV (r:AV):Prop:=∀ μ X Y v,r.holds μ X v→r.holds μ Y v
theorem RV.v {c:Value}:RV (.p (.v c)):=fun _ _ _ _ h=>h
theorem RV.a {cs:List AC} (h:∀ c∈cs,∃ x,c=.p (.v x)):RV (.a cs):=by
 rintro μ X Y v ⟨arr,rfl,h1⟩
 refine ⟨arr,rfl,h1.1,fun i c x hc hx=>?_⟩
 obtain ⟨y,rfl⟩:=h c (List.mem_of_getElem? hc)
 exact h1.2 i _ x hc hx
end Go.Aw
namespace Go.Proofs.YtkgploeegbmofaaGreat.Sh
open Go Go.RowKit Go.Aw Go.Aw.Sha
set_option linter.unusedVariables false
set_option linter.unusedSimpArgs false
set_option maxRecDepth 4000
theorem and31 (z:Int):0≤bits .and .u64 z 31∧bits .and .u64 z 31≤31:=by
 have e:bits .and .u64 z 31=(((BitVec.ofInt 64 z).toNat&&& 31:Nat):Int):=by
  have h1:(BitVec.ofInt 64 z&&& BitVec.ofInt 64 31).toNat=(BitVec.ofInt 64 z).toNat&&& 31:=by simp [BitVec.toNat_and]
  have h2:((BitVec.ofInt 64 z).toNat&&& 31)≤31:=Nat.and_le_right
  show IntKind.u64.wrap ((BitVec.ofInt 64 z&&& BitVec.ofInt 64 31).toNat:Int)=_
  rw [h1,wrap_md rfl,Nat.mod_eq_of_lt]
  exact Nat.lt_of_le_of_lt h2 (by decide)
 have h2:((BitVec.ofInt 64 z).toNat&&& 31)≤31:=Nat.and_le_right
 omega
theorem rotl_c (x:Nat) (k:Int):PCall Tryz.prog 191 [.p (.k .u32 (x:Int)),.p (.i k)] (.p (.k .u32 ((o32 ((x * 2 ^ (bits .and .u64 (IntKind.u64.wrap k) 31).toNat) % M) (x / 2 ^ ((32:Int) - bits .and .u64 (IntKind.u64.wrap k) 31).toNat):Nat):Int))):=by
 refine pcall_of Tryz.func191 rfl (fun w0 F S0 M0=>?_)
 have h31:=and31 (IntKind.u64.wrap k)
 repeat' (first|refine jx9 ?_|refine jy0 ?_ ?_|exact spF|refine spQ fun hq hq'=>?_|refine spN fun hn=>?_|fail)
 all_goals exact rt1 rfl rfl finS_p rfl
instance {x:Nat} {k:Int}:PC Tryz.prog 191 [.p (.k .u32 (x:Int)),.p (.i k)] True (.p (.k .u32 ((o32 ((x * 2 ^ (bits .and .u64 (IntKind.u64.wrap k) 31).toNat) % M) (x / 2 ^ ((32:Int) - bits .and .u64 (IntKind.u64.wrap k) 31).toNat):Nat):Int))):=⟨fun _=>rotl_c x k⟩
theorem turn_of:∀ n:Nat,n < 32→1≤n→bits .and .u64 (IntKind.u64.wrap (IntKind.i64.wrap (0 - (n:Int)))) 31=32 - (n:Int):=by decide
theorem o32_rot {x n:Nat} (hx:x < M):o32 ((x * 2 ^ (32 - n)) % M) (x / 2 ^ n)=rotr x n:=by
 unfold o32 rotr
 rw [Nat.mod_mod,Nat.mod_eq_of_lt (a:=x / 2 ^ n) (Nat.lt_of_le_of_lt (Nat.div_le_self _ _) hx),Nat.or_comm]
theorem right_c (x n:Nat) (h:x < M∧1≤n∧n≤31):PCall Tryz.prog 177 [.p (.k .u32 (x:Int)),.p (.i (n:Int))] (.p (.k .u32 ((rotr x n:Nat):Int))):=by
 refine pcall_of Tryz.func177 rfl (fun w0 F S0 M0=>?_)
 repeat' (first|refine jx9 ?_|refine jy0 ?_ ?_|exact spF|refine spQ fun hq hq'=>?_|refine spN fun hn=>?_|fail)
 refine rt1 rfl rfl finS_p (ri ?_)
 have e:=turn_of n (by omega) h.2.1
 have e1:(bits .and .u64 (IntKind.u64.wrap (IntKind.i64.wrap (0 - (n:Int)))) 31).toNat=32 - n:=by rw [e];omega
 have e2:((32:Int) - bits .and .u64 (IntKind.u64.wrap (IntKind.i64.wrap (0 - (n:Int)))) 31).toNat=n:=by rw [e];omega
 rw [e1,e2,o32_rot h.1]
instance {x:Nat} {k:Int}:PC Tryz.prog 177 [.p (.k .u32 (x:Int)),.p (.i k)] (x < M∧1≤k∧k≤31) (.p (.k .u32 ((rotr x k.toNat:Nat):Int))):=⟨fun h=>by
 have:=right_c x k.toNat ⟨h.1,by omega,by omega⟩
 rwa [show ((k.toNat:Nat):Int)=k by omega] at this⟩
abbrev wc (n:Nat):AC:=.p (.k .u32 (n:Int))
abbrev v8 (v:V8):List AC:=[wc v.a,wc v.b,wc v.c,wc v.d,wc v.e,wc v.f,wc v.g,wc v.h]
theorem first_c:PCall Tryz.prog 149 [] (.a (v8 firstV)):=by
 refine pcall_of Tryz.func149 rfl (fun w0 F S0 M0=>?_)
 repeat' (first|refine jx9 ?_|refine jy0 ?_ ?_|exact spF|refine spQ fun hq hq'=>?_|refine spN fun hn=>?_|fail)
 all_goals exact rc1 rfl rfl rfl rfl rfl rfl finL_p rfl
instance:PC Tryz.prog 149 [] True (.a (v8 firstV)):=⟨fun _=>first_c⟩
theorem consts_c:PCall Tryz.prog 175 [] (.a (consts.map wc)):=by
 refine pcall_of Tryz.func175 rfl (fun w0 F S0 M0=>?_)
 repeat' (first|refine jx9 ?_|refine jy0 ?_ ?_|exact spF|refine spQ fun hq hq'=>?_|refine spN fun hn=>?_|fail)
 all_goals exact rc1 rfl rfl rfl rfl rfl rfl finL_p rfl
instance:PC Tryz.prog 175 [] True (.a (consts.map wc)):=⟨fun _=>consts_c⟩
end Go.Proofs.YtkgploeegbmofaaGreat.Sh
namespace Go.Aw
open Go Go.RowKit
set_option linter.unusedVariables false
set_option linter.unusedSimpArgs false
inductive Cl where
  | p (x:PVal)
  | b (o n ty es lo:Nat) (rows:List (List PVal))
inductive Pc where
  | p (x:PVal)
  | b (ty es lo:Nat) (rows:List (List PVal))
def Cl.pc:Cl→Pc
  | .p x=>.p x
  | .b _ _ ty es lo rows=>.b ty es lo rows
def Cl.ac:Cl→AC
  | .p x=>.p x
  | .b o n _ es lo rows=>.osl o n es lo (rows.length - lo)
def Cl.ob:Cl→Option Nat
  | .p _=>none
  | .b o _ _ _ _ _=>some o
def Pc.holds (X:Wd) (v:Value) (f:List Nat):Pc→Prop
  | .p x=>x.holds X v∧f=[]
  | .b ty es lo rows=>∃ (m:Option Nat) (c:Nat),lo≤rows.length∧v=.slice (m.map fun b=>⟨b,lo * es,none⟩) (rows.length - lo) (c - lo)∧(MO.buf ty es rows).holds Mu.none X (m,c) f
structure PkN (ty:TypeId) (cs:List Pc) (X:Wd) (b:Nat) (fp:List Nat) (vs:List Value) (fs:List (List Nat)):Prop where
  heap:X.w.heap[b]?=some (.cells vs.toArray ty (0,0))
  fp:fp=b::fs.flatten
  vl:vs.length=cs.length
  fl:fs.length=cs.length
  get:∀ (i:Nat) c v f,cs[i]?=some c→vs[i]?=some v→fs[i]?=some f→c.holds X v f
  nb:∀ f∈fs,b ∉ f
  ap:∀ (i j:Nat) f g k,i≠j→fs[i]?=some f→fs[j]?=some g→k∈f→k∈g→False
def pkN (ty:TypeId) (cs:List Pc):AObj where
  holds X b fp:=∃ vs fs,PkN ty cs X b fp vs fs
  mono:=by
    rintro x y b fp hle hf ⟨vs,fs,h⟩
    refine ⟨vs,fs,⟨(hf b (by rw [h.fp];simp)).trans h.heap,h.fp,h.vl,h.fl,fun i c v f h1 h2 h3=>?_,h.nb,h.ap⟩⟩
    have k:=h.get i c v f h1 h2 h3
    cases c with
    | p p=>exact ⟨p.mono hle k.1,k.2⟩
    | b ty es lo rows=>
      obtain ⟨m,c,e0,e,k⟩:=k
      exact ⟨m,c,e0,e,k.mono (Mu.le.refl _) hle fun z hz=>hf z (by rw [h.fp];exact List.mem_cons_of_mem _ (List.mem_flatten.2 ⟨f,List.mem_of_getElem? h3,hz⟩))⟩
def clIx:List Cl→Nat→Option Nat
  | [],_=>none
  | c::l,x=>if c.ob=some x then some 0 else (clIx l x).map (· + 1)
theorem clIx_some:∀ {l:List Cl} {x i:Nat},clIx l x=some i→∃ c,l[i]?=some c∧c.ob=some x
  | [],x,i,h=>by cases h
  | c::l,x,i,h=>by
    unfold clIx at h
    split at h
    · rename_i q
      obtain rfl:=Option.some.inj h
      exact ⟨c,rfl,q⟩
    · rw [Option.map_eq_some_iff] at h
      obtain ⟨j,h,rfl⟩:=h
      obtain ⟨d,h1,h2⟩:=clIx_some h
      exact ⟨d,by simpa using h1,h2⟩
theorem clIx_none:∀ {l:List Cl} {x:Nat},clIx l x=none→∀ c∈l,c.ob≠some x
  | [],x,h=>fun c hc=>by cases hc
  | c::l,x,h=>by
    unfold clIx at h
    split at h
    · cases h
    · rename_i q
      rw [Option.map_eq_none_iff] at h
      intro d hd
      rcases List.mem_cons.1 hd with rfl|k
      · exact q
      · exact clIx_none h d k
def ClNd (l:List Cl):Prop:=∀ (i j:Nat) c d o,l[i]?=some c→l[j]?=some d→c.ob=some o→d.ob=some o→i=j
theorem clIx_at {l:List Cl} (h:ClNd l) {i:Nat} {c:Cl} {o:Nat} (hc:l[i]?=some c) (ho:c.ob=some o):clIx l o=some i:=by
  cases k:clIx l o with
  | none=>exact absurd ho (clIx_none k c (List.mem_of_getElem? hc))
  | some j=>
    obtain ⟨d,h1,h2⟩:=clIx_some k
    rw [h i j c d o hc h1 ho h2]
theorem ob_b {c:Cl} {o:Nat} (h:c.ob=some o):∃ n ty es lo rows,c=.b o n ty es lo rows:=by
  cases c with
  | p x=>cases h
  | b o' n ty es lo rows=>obtain rfl:=Option.some.inj h;exact ⟨n,ty,es,lo,rows,rfl⟩
theorem says_packN {C:Ctx} {σ:St} {p np ty:Nat} {cells:List Cl} (hp:σ.mem p=(np,some (.box ty (cells.map Cl.ac)))) (hm:∀ o n ty es lo rows,Cl.b o n ty es lo rows∈cells→σ.mem o=(n+1,some (.buf ty es rows))∧o≠p∧lo≤rows.length) (hnd:ClNd cells) :
    Says C σ ⟨σ.env,fun x=>if x=p then (np,some (.abs (pkN ty (cells.map Cl.pc)))) else match clIx cells x with|some _=>((σ.mem x).1,none)|none=>σ.mem x⟩:=by
  rintro a w ⟨G,h⟩
  obtain ⟨gp,mp,e1,e2,b,arr,e3,e4,e5,e6⟩:=h.mem p _ _ hp
  obtain ⟨φ',hφ⟩:∃ φ':Nat→List Nat,∀ x,φ' x=if x=p then b::(cells.map fun c=>match c.ob with|none=>[]|some o=>G.φ o).flatten else match clIx cells x with|some _=>[]|none=>G.φ x:=⟨_,fun _=>rfl⟩
  have hfp:∀ {x k},k∈φ' x→(x=p∧(k∈G.φ p∨∃ o,clIx cells o≠none∧k∈G.φ o))∨(x≠p∧clIx cells x=none∧k∈G.φ x):=fun {x k} hk=>by
    rw [hφ] at hk
    by_cases hx:x=p
    · rw [if_pos hx] at hk
      refine .inl ⟨hx,?_⟩
      rcases List.mem_cons.1 hk with rfl|hk
      · left;rw [e4];simp
      · obtain ⟨l,hl,hkl⟩:=List.mem_flatten.1 hk
        obtain ⟨c,hc,rfl⟩:=List.mem_map.1 hl
        cases ho:c.ob with
        | none=>rw [ho] at hkl;cases hkl
        | some o=>
          rw [ho] at hkl
          exact .inr ⟨o,fun q=>clIx_none q c hc ho,hkl⟩
    · rw [if_neg hx] at hk
      cases q:clIx cells x with
      | none=>rw [q] at hk;exact .inr ⟨hx,rfl,hk⟩
      | some i=>rw [q] at hk;cases hk
  have hne:∀ {o},clIx cells o≠none→o≠p:=fun {o} q=>by
    cases k:clIx cells o with
    | none=>exact absurd k q
    | some i=>
      obtain ⟨c,h1,h2⟩:=clIx_some k
      obtain ⟨n,ty',es,lo,rows,rfl⟩:=ob_b h2
      exact (hm _ _ _ _ _ _ (List.mem_of_getElem? h1)).2.1
  refine ⟨⟨G.μ,G.S,φ'⟩,?_⟩
  exact {
    size:=h.size
    defers:=fun d hd=>by
      obtain ⟨b',rfl,h1,h2,h3,h4,h5⟩:=h.defers d hd
      refine ⟨b',rfl,h1,h2,h3,h4,fun x hx=>?_⟩
      rcases hfp hx with ⟨_,k | ⟨o,_,k⟩⟩ | ⟨_,_,k⟩
      · exact h5 _ k
      · exact h5 _ k
      · exact h5 _ k
    dnod:=h.dnod
    mle:=h.mle
    env:=h.env
    gens:=fun x=>by
      have:=h.gens x
      dsimp only
      by_cases hx:x=p
      · subst hx;rw [if_pos rfl];rw [hp] at this;exact this
      · rw [if_neg hx]
        cases clIx cells x<;>exact this
    mem:=fun x n mo hx=>by
      dsimp only at hx ⊢
      by_cases hxp:x=p
      · subst hxp
        rw [if_pos rfl] at hx
        obtain ⟨e0,hx'⟩:=Prod.mk.inj hx
        subst e0
        obtain rfl:=Option.some.inj hx'
        refine ⟨gp,mp,e1,e2,b,e3,arr,cells.map fun c=>match c.ob with|none=>[]|some o=>G.φ o,?_⟩
        refine ⟨e5,by rw [hφ,if_pos rfl],by rw [← e6.1];simp,by simp,fun i c' v f h1 h2 h3=>?_,fun f hf hb=>?_,fun i j f g k hij h1 h2 k1 k2=>?_⟩
        · rw [List.getElem?_map,Option.map_eq_some_iff] at h1 h3
          obtain ⟨c,hc,rfl⟩:=h1
          obtain ⟨c2,hc2,rfl⟩:=h3
          rw [hc] at hc2
          obtain rfl:=Option.some.inj hc2
          have hv:=e6.2 i c.ac v (by rw [List.getElem?_map,hc];rfl) h2
          cases c with
          | p y=>exact ⟨hv,rfl⟩
          | b o n ty' es lo rows=>
            obtain ⟨m,cp,r1,r2,r3⟩:=hv
            have hmo:=(hm o n ty' es lo rows (List.mem_of_getElem? hc)).1
            obtain ⟨g,m2,k1,k2,k3⟩:=h.mem o _ _ hmo
            obtain rfl:n=g:=by omega
            rw [r1] at k2
            obtain rfl:=Option.some.inj k2
            exact ⟨m,cp,(hm o n ty' es lo rows (List.mem_of_getElem? hc)).2.2,r3,k3⟩
        · obtain ⟨c,hc,rfl⟩:=List.mem_map.1 hf
          cases ho:c.ob with
          | none=>rw [ho] at hb;cases hb
          | some o=>
            rw [ho] at hb
            exact h.apart o x b (hne fun q=>clIx_none q c hc ho) hb (by rw [e4];simp)
        · rw [List.getElem?_map,Option.map_eq_some_iff] at h1 h2
          obtain ⟨c,hc,rfl⟩:=h1
          obtain ⟨d,hd,rfl⟩:=h2
          cases ho:c.ob with
          | none=>rw [ho] at k1;cases k1
          | some o=>
            cases hq:d.ob with
            | none=>rw [hq] at k2;cases k2
            | some q=>
              rw [ho] at k1
              rw [hq] at k2
              refine h.apart o q k (fun e=>?_) k1 k2
              subst e
              exact hij (hnd i j c d o hc hd ho hq)
      · rw [if_neg hxp] at hx
        rw [hφ,if_neg hxp]
        cases q:clIx cells x with
        | none=>rw [q] at hx;exact h.mem x n mo hx
        | some i=>rw [q] at hx;cases hx
    apart:=fun x y b' hxy hbx hby=>by
      rcases hfp hbx with ⟨rfl,k | ⟨o,k1,k⟩⟩ | ⟨k1,k2,k⟩<;>rcases hfp hby with ⟨rfl,q | ⟨o2,q1,q⟩⟩ | ⟨q1,q2,q⟩
      · exact hxy rfl
      · exact hxy rfl
      · exact h.apart _ _ b' hxy k q
      · exact hxy rfl
      · exact hxy rfl
      · exact h.apart _ _ b' (fun e=>by subst e;exact k1 q2) k q
      · exact h.apart _ _ b' hxy k q
      · exact h.apart _ _ b' (fun e=>by subst e;exact q1 k2) k q
      · exact h.apart _ _ b' hxy k q
    stab:=fun x b' hb=>by
      rcases hfp hb with ⟨_,k | ⟨_,_,k⟩⟩ | ⟨_,_,k⟩
      · exact h.stab _ b' k
      · exact h.stab _ b' k
      · exact h.stab _ b' k
    own:=fun x b' hb=>by
      rcases hfp hb with ⟨_,k | ⟨_,_,k⟩⟩ | ⟨_,_,k⟩
      · exact h.own _ b' k
      · exact h.own _ b' k
      · exact h.own _ b' k
    sbd:=h.sbd
    ssub:=h.ssub
    fr:=h.fr }
def vmc (lo:Nat):Value→Option Nat × Nat
  | .slice base _ c=>(base.map (·.block),c+lo)
  | _=>(none,0)
theorem vmc_sl {m:Option Nat} {l c lo q:Nat} (h:lo≤c):vmc lo (.slice (m.map fun b=>⟨b,q,none⟩) l (c - lo))=(m,c):=by
  have e:c - lo+lo=c:=Nat.sub_add_cancel h
  cases m<;>simp [vmc,e]
def clLo (l:List Cl) (i:Nat):Nat:=match l[i]? with|some (.b _ _ _ _ lo _)=>lo|_=>0
theorem says_unpackN {C:Ctx} {σ:St} {p np ty:Nat} {cells:List Cl} (hp:σ.mem p=(np,some (.abs (pkN ty (cells.map Cl.pc))))) (hm:∀ o n ty es lo rows,Cl.b o n ty es lo rows∈cells→(σ.mem o).1=n∧o≠p) (hnd:ClNd cells) :
    Says C σ ⟨σ.env,fun x=>if x=p then (np,some (.box ty (cells.map Cl.ac))) else match clIx cells x with|some i=>(match cells[i]? with|some (.b _ n ty es _ rows)=>(n+1,some (.buf ty es rows))|_=>σ.mem x)|none=>σ.mem x⟩:=by
  rintro a w ⟨G,h⟩
  obtain ⟨gp,mp,e1,e2,b,e3,vs,fs,K⟩:=h.mem p _ _ hp
  have vl:vs.length=cells.length:=by rw [K.vl,List.length_map]
  have fl:fs.length=cells.length:=by rw [K.fl,List.length_map]
  have hcell:∀ {o i},clIx cells o=some i→∃ n ty es lo rows,cells[i]?=some (.b o n ty es lo rows)∧(σ.mem o).1=n∧o≠p∧∃ m c f,lo≤rows.length∧vs[i]?=some (.slice (m.map fun b=>⟨b,lo * es,none⟩) (rows.length - lo) (c - lo))∧fs[i]?=some f∧(MO.buf ty es rows).holds Mu.none ⟨w,G.S⟩ (m,c) f:=fun {o i} q=>by
    obtain ⟨c,h1,h2⟩:=clIx_some q
    obtain ⟨n,ty',es,lo,rows,rfl⟩:=ob_b h2
    have hi:i < cells.length:=(List.getElem?_eq_some_iff.1 h1).1
    have k:=hm _ _ _ _ _ _ (List.mem_of_getElem? h1)
    have hv:vs[i]?=some (vs[i]'(by omega)):=List.getElem?_eq_getElem (by omega)
    have hf:fs[i]?=some (fs[i]'(by omega)):=List.getElem?_eq_getElem (by omega)
    have g:=K.get i (.b ty' es lo rows) _ _ (by rw [List.getElem?_map,h1];rfl) hv hf
    obtain ⟨m,c,g0,g1,g2⟩:=g
    exact ⟨n,ty',es,lo,rows,h1,k.1,k.2,m,c,_,g0,by rw [hv,g1],hf,g2⟩
  obtain ⟨μ',hμ⟩:∃ μ':Mu,∀ x,μ' x=match clIx cells x with|some i=>G.μ x++[vmc (clLo cells i) (vs.getD i undef)]|none=>G.μ x:=⟨_,fun _=>rfl⟩
  obtain ⟨φ',hφ⟩:∃ φ':Nat→List Nat,∀ x,φ' x=match clIx cells x with|some i=>fs.getD i []|none=>if x=p then [b] else G.φ x:=⟨_,fun _=>rfl⟩
  have hmu:G.μ.le μ':=fun x g y hy=>by
    rw [hμ]
    cases clIx cells x with
    | none=>exact hy
    | some i=>dsimp only;rw [List.getElem?_append_left (List.getElem?_eq_some_iff.1 hy).1];exact hy
  have hpn:clIx cells p=none:=by
    cases q:clIx cells p with
    | none=>rfl
    | some i=>obtain ⟨_,_,_,_,_,_,_,k,_⟩:=hcell q;exact absurd rfl k
  -- what an object's blocks were ahead
  have hfp:∀ {x k},k∈φ' x→(∃ i f,clIx cells x=some i∧fs[i]?=some f∧k∈f∧k∈G.φ p)∨(x=p∧k=b∧k∈G.φ p)∨(x≠p∧clIx cells x=none∧k∈G.φ x):=fun {x k} hk=>by
    rw [hφ] at hk
    cases q:clIx cells x with
    | some i=>
      rw [q] at hk
      dsimp only at hk
      obtain ⟨n,ty',es,lo,rows,c1,c2,c3,m,c,f,c0,c4,c5,c6⟩:=hcell q
      rw [List.getD_eq_getElem?_getD,c5] at hk
      exact .inl ⟨i,f,rfl,c5,hk,by rw [K.fp];exact List.mem_cons_of_mem _ (List.mem_flatten.2 ⟨f,List.mem_of_getElem? c5,hk⟩)⟩
    | none=>
      rw [q] at hk
      dsimp only at hk
      by_cases hx:x=p
      · rw [if_pos hx] at hk
        have e:k=b:=by simpa using hk
        exact .inr (.inl ⟨hx,e,by rw [K.fp,e];simp⟩)
      · rw [if_neg hx] at hk
        exact .inr (.inr ⟨hx,rfl,hk⟩)
  have hold:∀ {x k},k∈φ' x→∃ y,k∈G.φ y:=fun hk=>by
    rcases hfp hk with ⟨_,_,_,_,_,q⟩ | ⟨_,_,q⟩ | ⟨_,_,q⟩<;>exact ⟨_,q⟩
  refine ⟨⟨μ',G.S,φ'⟩,?_⟩
  exact {
    size:=h.size
    defers:=fun d hd=>by
      obtain ⟨b',rfl,h1,h2,h3,h4,h5⟩:=h.defers d hd
      exact ⟨b',rfl,h1,h2,h3,h4,fun x hx=>by obtain ⟨y,hy⟩:=hold hx;exact h5 y hy⟩
    dnod:=h.dnod
    mle:=h.mle.trans hmu
    env:=fun t=>(h.env t).mono hmu (Wd.le.refl _)
    gens:=fun x=>by
      have:=h.gens x
      dsimp only
      rw [hμ]
      by_cases hx:x=p
      · subst hx;rw [if_pos rfl,hpn];rw [hp] at this;exact this
      · rw [if_neg hx]
        cases q:clIx cells x with
        | none=>exact this
        | some i=>
          obtain ⟨n,ty',es,lo,rows,c1,c2,_⟩:=hcell q
          dsimp only
          rw [c1]
          simp [this,c2]
    mem:=fun x n' mo' hx=>by
      dsimp only at hx ⊢
      by_cases hxp:x=p
      · subst hxp
        rw [if_pos rfl] at hx
        obtain ⟨e0,hx'⟩:=Prod.mk.inj hx
        subst e0
        obtain rfl:=Option.some.inj hx'
        refine ⟨gp,mp,e1,hmu _ _ _ e2,b,vs,e3,by rw [hφ,hpn];simp,K.heap,by rw [List.length_map,vl],fun i c v h1 h2=>?_⟩
        rw [List.getElem?_map,Option.map_eq_some_iff] at h1
        obtain ⟨c,hc,rfl⟩:=h1
        have hi:i < cells.length:=(List.getElem?_eq_some_iff.1 hc).1
        have hf:fs[i]?=some (fs[i]'(by omega)):=List.getElem?_eq_getElem (by omega)
        have g:=K.get i c.pc v _ (by rw [List.getElem?_map,hc];rfl) h2 hf
        cases c with
        | p y=>exact g.1
        | b o n ty' es lo rows=>
          obtain ⟨m,cp,g0,g1,g2⟩:=g
          have hcl:clLo cells i=lo:=by unfold clLo;rw [hc]
          have hrl:rows.length≤cp:=g2.2.2.1
          have q:=clIx_at hnd hc rfl
          have hln:(G.μ o).length=n:=by rw [h.gens o];exact (hm _ _ _ _ _ _ (List.mem_of_getElem? hc)).1
          refine ⟨m,cp,?_,by omega,g1⟩
          · rw [hμ,q]
            dsimp only
            rw [List.getElem?_append_right (by omega),hln,Nat.sub_self,List.getD_eq_getElem?_getD,h2,g1,hcl]
            simp only [Option.getD_some,List.getElem?_cons_zero]
            rw [vmc_sl (Nat.le_trans g0 hrl)]
      · rw [if_neg hxp] at hx
        cases q:clIx cells x with
        | some i=>
          obtain ⟨n,ty',es,lo,rows,c1,c2,c3,m,c,f,c0,c4,c5,c6⟩:=hcell q
          rw [q] at hx
          dsimp only at hx
          rw [c1] at hx
          obtain ⟨e0,hx'⟩:=Prod.mk.inj hx
          subst e0
          obtain rfl:=Option.some.inj hx'
          have hln:(G.μ x).length=n:=by rw [h.gens x];exact c2
          have hcl:clLo cells i=lo:=by unfold clLo;rw [c1]
          have hrl:rows.length≤c:=c6.2.2.1
          refine ⟨n,(m,c),rfl,?_,?_⟩
          · rw [hμ,q]
            dsimp only
            rw [List.getElem?_append_right (by omega),hln,Nat.sub_self,List.getD_eq_getElem?_getD,c4,hcl]
            simp only [Option.getD_some,List.getElem?_cons_zero]
            rw [vmc_sl (Nat.le_trans c0 hrl)]
          · rw [hφ,q]
            dsimp only
            rw [List.getD_eq_getElem?_getD,c5]
            exact c6
        | none=>
          rw [q] at hx
          obtain ⟨g,m2,hn,hm2,hh⟩:=h.mem x n' mo' hx
          refine ⟨g,m2,hn,hmu _ _ _ hm2,?_⟩
          rw [hφ,q]
          dsimp only
          rw [if_neg hxp]
          exact hh.mono hmu (Wd.le.refl _) fun k hk=>rfl
    apart:=fun x y k hxy hbx hby=>by
      rcases hfp hbx with ⟨i,f,i1,i2,i3,i4⟩ | ⟨i1,i2,i3⟩ | ⟨i1,i2,i3⟩<;>rcases hfp hby with ⟨j,g,j1,j2,j3,j4⟩ | ⟨j1,j2,j3⟩ | ⟨j1,j2,j3⟩
      · refine K.ap i j f g k (fun e=>?_) i2 j2 i3 j3
        subst e
        obtain ⟨c,a1,a2⟩:=clIx_some i1
        obtain ⟨d,b1,b2⟩:=clIx_some j1
        rw [a1] at b1
        obtain rfl:=Option.some.inj b1
        rw [a2] at b2
        exact hxy (Option.some.inj b2)
      · subst j2;exact K.nb f (List.mem_of_getElem? i2) i3
      · exact h.apart p y k (Ne.symm j1) i4 j3
      · subst i2;exact K.nb g (List.mem_of_getElem? j2) j3
      · exact hxy (i1.trans j1.symm)
      · exact h.apart p y k (Ne.symm j1) i3 j3
      · exact h.apart x p k i1 i3 j4
      · exact h.apart x p k i1 i3 j3
      · exact h.apart x y k hxy i3 j3
    stab:=fun x b' hb=>by obtain ⟨y,hy⟩:=hold hb;exact h.stab y b' hy
    own:=fun x b' hb=>by obtain ⟨y,hy⟩:=hold hb;exact h.own y b' hy
    sbd:=h.sbd
    ssub:=h.ssub
    fr:=h.fr }
theorem st_ext {σ τ:St} (h1:σ.env=τ.env) (h2:∀ x,σ.mem x=τ.mem x):σ=τ:=by
  cases σ;cases τ
  simp only [St.mk.injEq]
  exact ⟨h1,funext h2⟩
theorem says_to {C:Ctx} {σ τ τ':St} (h:Says C σ τ) (he:τ.env=τ'.env) (hm:∀ x,τ.mem x=τ'.mem x):Says C σ τ':=by
  rw [← st_ext he hm];exact h
def clPuts:List Cl→List (Nat × (Nat × Option MO))
  | []=>[]
  | .p _::l=>clPuts l
  | .b o n ty es _ rows::l=>(o,(n+1,some (.buf ty es rows)))::clPuts l
def clNons:List Cl→List (Nat × (Nat × Option MO))
  | []=>[]
  | .p _::l=>clNons l
  | .b o n _ _ _ _::l=>(o,(n+1,none))::clNons l
theorem clIx_cons {c:Cl} {l:List Cl} {x:Nat}:clIx (c::l) x=if c.ob=some x then some 0 else (clIx l x).map (· + 1):=rfl
theorem clPuts_mem {σ:St} {x:Nat}:∀ (l:List Cl),(σ.puts (clPuts l)).mem x=match clIx l x with|some i=>(match l[i]? with|some (.b _ n ty es _ rows)=>(n+1,some (.buf ty es rows))|_=>σ.mem x)|none=>σ.mem x
  | []=>rfl
  | .p y::l=>by
    show (σ.puts (clPuts l)).mem x=_
    rw [clPuts_mem l]
    rw [clIx_cons]
    rw [if_neg (by intro h;cases h)]
    cases clIx l x<;>rfl
  | .b o n ty es lo rows::l=>by
    show (if x=o then _ else (σ.puts (clPuts l)).mem x)=_
    rw [clIx_cons]
    by_cases q:x=o
    · subst q
      rw [if_pos rfl,if_pos (show (Cl.b x n ty es lo rows).ob=some x from rfl)]
      rfl
    · rw [if_neg q,if_neg (show ¬ (Cl.b o n ty es lo rows).ob=some x from fun h=>q (Option.some.inj h).symm),clPuts_mem l]
      cases clIx l x<;>rfl
theorem clNons_mem {σ:St} {x:Nat}:∀ (l:List Cl),(∀ o n ty es lo rows,Cl.b o n ty es lo rows∈l→(σ.mem o).1=n+1)→(σ.puts (clNons l)).mem x=match clIx l x with|some _=>((σ.mem x).1,none)|none=>σ.mem x
  | [],_=>rfl
  | .p y::l,h=>by
    show (σ.puts (clNons l)).mem x=_
    rw [clNons_mem l fun o n ty es lo rows k=>h o n ty es lo rows (List.mem_cons_of_mem _ k)]
    rw [clIx_cons]
    rw [if_neg (by intro h;cases h)]
    cases clIx l x<;>rfl
  | .b o n ty es lo rows::l,h=>by
    show (if x=o then _ else (σ.puts (clNons l)).mem x)=_
    rw [clIx_cons]
    by_cases q:x=o
    · subst q
      rw [if_pos rfl,if_pos (show (Cl.b x n ty es lo rows).ob=some x from rfl)]
      show _=((σ.mem x).1,none)
      rw [h _ _ _ _ _ _ (List.mem_cons_self ..)]
    · rw [if_neg q,if_neg (show ¬ (Cl.b o n ty es lo rows).ob=some x from fun h=>q (Option.some.inj h).symm),clNons_mem l fun o n ty es lo rows k=>h o n ty es lo rows (List.mem_cons_of_mem _ k)]
      cases clIx l x<;>rfl
theorem says_unpackL {C:Ctx} {σ:St} {p np ty:Nat} {cells:List Cl} (hp:σ.mem p=(np,some (.abs (pkN ty (cells.map Cl.pc))))) (hm:∀ o n ty es lo rows,Cl.b o n ty es lo rows∈cells→(σ.mem o).1=n∧o≠p) (hnd:ClNd cells) :
    Says C σ ((σ.puts (clPuts cells)).put p (np,some (.box ty (cells.map Cl.ac)))):=by
  refine says_to (says_unpackN hp hm hnd) (by show σ.env=(σ.puts (clPuts cells)).env;exact (St.puts_env _ _).symm) fun x=>?_
  show (if x=p then _ else _)=(if x=p then _ else _)
  by_cases h1:x=p
  · rw [if_pos h1,if_pos h1]
  · rw [if_neg h1,if_neg h1,clPuts_mem]
theorem says_packL {C:Ctx} {σ:St} {p np ty:Nat} {cells:List Cl} (hp:σ.mem p=(np,some (.box ty (cells.map Cl.ac)))) (hm:∀ o n ty es lo rows,Cl.b o n ty es lo rows∈cells→σ.mem o=(n+1,some (.buf ty es rows))∧o≠p∧lo≤rows.length) (hnd:ClNd cells) :
    Says C σ ((σ.puts (clNons cells)).put p (np,some (.abs (pkN ty (cells.map Cl.pc))))):=by
  refine says_to (says_packN hp hm hnd) (by show σ.env=(σ.puts (clNons cells)).env;exact (St.puts_env _ _).symm) fun x=>?_
  show (if x=p then _ else _)=(if x=p then _ else _)
  by_cases h1:x=p
  · rw [if_pos h1,if_pos h1]
  · rw [if_neg h1,if_neg h1,clNons_mem _ fun o n ty es lo rows k=>by rw [(hm o n ty es lo rows k).1]]
def clObs:List Cl→List Nat
  | []=>[]
  | .p _::l=>clObs l
  | .b o _ _ _ _ _::l=>o::clObs l
theorem mem_obs {o:Nat}:∀ {l:List Cl} {c:Cl},c∈l→c.ob=some o→o∈clObs l
  | .p _::l,c,h,ho=>by
    rcases List.mem_cons.1 h with rfl|h
    · cases ho
    · exact mem_obs (l:=l) h ho
  | .b _ _ _ _ _ _::l,c,h,ho=>by
    rcases List.mem_cons.1 h with rfl|h
    · obtain rfl:=Option.some.inj ho;exact List.mem_cons_self ..
    · exact List.mem_cons_of_mem _ (mem_obs h ho)
theorem clNd_of:∀ {l:List Cl},(clObs l).Nodup→ClNd l
  | [],_=>fun i j c d o h1=>by simp at h1
  | .p y::l,h=>fun i j c d o h1 h2 h3 h4=>by
    cases i with
    | zero=>obtain rfl:=Option.some.inj h1;cases h3
    | succ i=>
      cases j with
      | zero=>obtain rfl:=Option.some.inj h2;cases h4
      | succ j=>rw [clNd_of (l:=l) h i j c d o (by simpa using h1) (by simpa using h2) h3 h4]
  | .b o' n ty es lo rows::l,h=>fun i j c d o h1 h2 h3 h4=>by
    have h':=List.nodup_cons.1 h
    cases i with
    | zero=>
      obtain rfl:=Option.some.inj h1
      obtain rfl:=Option.some.inj h3
      cases j with
      | zero=>rfl
      | succ j=>exact absurd (mem_obs (List.mem_of_getElem? (by simpa using h2)) h4) h'.1
    | succ i=>
      cases j with
      | zero=>
        obtain rfl:=Option.some.inj h2
        obtain rfl:=Option.some.inj h4
        exact absurd (mem_obs (List.mem_of_getElem? (by simpa using h1)) h3) h'.1
      | succ j=>rw [clNd_of h'.2 i j c d o (by simpa using h1) (by simpa using h2) h3 h4]
end Go.Aw
