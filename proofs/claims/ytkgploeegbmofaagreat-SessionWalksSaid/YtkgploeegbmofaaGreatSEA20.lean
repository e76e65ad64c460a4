/- buckets in plain Lean -/
import Derived.Test.YtkgploeegbmofaaGreatSEA19
import Derived.Test.YtkgploeegbmofaaGreatSEA15
import Derived.Test.YtkgploeegbmofaaGreatSEA43
import Derived.Test.YtkgploeegbmofaaGreatSEA14
import Derived.Test.YtkgploeegbmofaaGreatSEA18
import Derived.Test.YtkgploeegbmofaaGreatSEA09
namespace Go.Proofs.YtkgploeegbmofaaGreat.Wi
open Go Go.RowKit Go.Aw Go.Aw.Cart Go.Proofs.YtkgploeegbmofaaGreat.Ca Go.Proofs.YtkgploeegbmofaaGreat.Rg
set_option linter.unusedVariables false
set_option linter.unusedSimpArgs false
def emptyF (c:Crt):Bool:=sameF c.1 zeroV c.2 []
def offF (e:Kd):Bool:=emptyF e.2||!keyR e.1
def stF (l:List Kd):List Kd:=l.filter fun e=>!offF e
def inB (part:Int) (j:Nat) (e:Kd):Bool:=decide ((partF e.1:Int)=part)&&decide (leafF e.1=j)
def bkF (part:Int) (L:List Kd):List (List Kd):=(List.range 16).map fun j=>L.filter (inB part j)
def bktsF (l:List Kd) (part:Int):List (List Kd):=if keysF l=true then bkF part (stF l) else List.replicate 16 []
theorem bkF_len (part:Int) (L:List Kd):(bkF part L).length=16:=by simp [bkF]
theorem bkF_get (part:Int) (L:List Kd) {j:Nat} (h:j < 16):(bkF part L).getD j []=L.filter (inB part j):=by
 unfold bkF
 rw [List.getD_eq_getElem?_getD,List.getElem?_map,List.getElem?_range h];rfl
theorem bkts_len (l:List Kd) (part:Int):(bktsF l part).length=16:=by
 unfold bktsF
 split
 ·exact bkF_len _ _
 ·rfl
theorem leaf_lt (k:List Nat):leafF k < 16:=Nat.mod_lt _ (by decide)
theorem bk_ext {a b:List (List Kd)} (ha:a.length=16) (hb:b.length=16) (h:∀ j,j < 16→a.getD j []=b.getD j []):a=b:=by
 refine List.ext_getElem (ha.trans hb.symm) fun i h1 h2=>?_
 have:=h i (by omega)
 rwa [List.getD_eq_getElem?_getD,List.getD_eq_getElem?_getD,List.getElem?_eq_getElem h1,List.getElem?_eq_getElem h2] at this
theorem bk_skip {part:Int} {L:List Kd} {e:Kd} (h:(partF e.1:Int)≠part):bkF part (L++[e])=bkF part L:=by
 refine bk_ext (bkF_len _ _) (bkF_len _ _) fun j hj=>?_
 rw [bkF_get _ _ hj,bkF_get _ _ hj,List.filter_append]
 have:inB part j e=false:=by unfold inB;rw [decide_eq_false h];rfl
 rw [List.filter_cons_of_neg (by rw [this];simp),List.filter_nil,List.append_nil]
theorem bk_put {part:Int} {L:List Kd} {e:Kd} (h:(partF e.1:Int)=part):bkF part (L++[e])=(bkF part L).set (leafF e.1) ((bkF part L).getD (leafF e.1) []++[e]):=by
 refine bk_ext (bkF_len _ _) (by rw [List.length_set];exact bkF_len _ _) fun j hj=>?_
 have hlf:=leaf_lt e.1
 rw [bkF_get _ _ hj,List.filter_append]
 by_cases q:leafF e.1=j
 ·have:inB part j e=true:=by unfold inB;rw [decide_eq_true h,decide_eq_true q];rfl
  rw [List.filter_cons_of_pos this,List.filter_nil]
  subst q
  rw [List.getD_eq_getElem?_getD,List.getElem?_set_self (by rw [bkF_len];exact hlf),bkF_get _ _ hlf];rfl
 ·have:inB part j e=false:=by unfold inB;rw [decide_eq_false q,Bool.and_false]
  rw [List.filter_cons_of_neg (by rw [this];simp),List.filter_nil,List.append_nil]
  rw [List.getD_eq_getElem?_getD,List.getElem?_set_ne q,← List.getD_eq_getElem?_getD,bkF_get _ _ hj]
theorem st_sub {l:List Kd}:∀ e∈stF l,e∈l:=fun e h=>(List.mem_filter.1 h).1
theorem st_len (l:List Kd):(stF l).length≤l.length:=List.length_filter_le _ _
theorem bk_sub {part:Int} {l:List Kd} {j:Nat}:∀ e∈(bktsF l part).getD j [],e∈l:=by
 intro e h
 unfold bktsF at h
 split at h
 ·by_cases hj:j < 16
  ·rw [bkF_get _ _ hj] at h
   exact st_sub e (List.mem_filter.1 h).1
  ·rw [List.getD_eq_getElem?_getD,List.getElem?_eq_none (by rw [bkF_len];omega)] at h
   cases h
 ·rw [List.getD_eq_getElem?_getD,List.getElem?_replicate] at h
  split at h<;>cases h
theorem bk_lenle {part:Int} {l:List Kd} {j:Nat}:((bktsF l part).getD j []).length≤l.length:=by
 unfold bktsF
 split
 ·by_cases hj:j < 16
  ·rw [bkF_get _ _ hj]
   exact Nat.le_trans (List.length_filter_le _ _) (st_len l)
  ·rw [List.getD_eq_getElem?_getD,List.getElem?_eq_none (by rw [bkF_len];omega)]
   exact Nat.zero_le _
 ·rw [List.getD_eq_getElem?_getD,List.getElem?_replicate]
  split<;>exact Nat.zero_le _
end Go.Proofs.YtkgploeegbmofaaGreat.Wi
namespace Go.Aw.Bo
set_option linter.unusedVariables false
set_option linter.unusedSimpArgs false
def rightB (b c m t:Int):Bool:=decide (1≤b∧b≤1000∧b≤c∧c≤1048576∧1≤m∧m≤1073741824∧0≤t∧t≤1073741824)
theorem right_of {b c m t:Int} (h:rightB b c m t=true):1≤b∧b≤1000∧b≤c∧c≤1048576∧1≤m∧m≤1073741824∧0≤t∧t≤1073741824:=of_decide_eq_true h
theorem right_mk {b c m t:Int} (h:1≤b∧b≤1000∧b≤c∧c≤1048576∧1≤m∧m≤1073741824∧0≤t∧t≤1073741824):rightB b c m t=true:=decide_eq_true h
def pw (b:Int):Nat→Int
 | 0=>b
 | i+1=>pw b i * 2
theorem pw_pos {b:Int} (h:1≤b):∀ i,1≤pw b i
 | 0=>h
 | i+1=>by have:=pw_pos h i;rw [pw];omega
theorem pw_mono {b:Int} (h:1≤b) {i:Nat}:∀ {j:Nat},i≤j→pw b i≤pw b j
 | 0,hj=>by rw [Nat.le_zero.1 hj];exact Int.le_refl _
 | j+1,hj=>by
  by_cases e:i=j+1
  ·rw [e];exact Int.le_refl _
  ·have:=pw_mono h (i:=i) (j:=j) (by omega)
   have h2:=pw_pos h j
   rw [pw];omega
def gapF (b c:Int) (t:Nat):Int:=if c < pw b t then c else pw b t
theorem gap_in {b c:Int} {t:Nat} (h:1≤b) (hbc:b≤c):b≤gapF b c t∧gapF b c t≤c:=by
 have h1:=pw_mono h (Nat.zero_le t)
 unfold gapF;split
 ·omega
 ·exact ⟨h1,by omega⟩
def nxF (t:Int):Int:=if t < 1073741824 then t+1 else t
end Go.Aw.Bo
namespace Go.Proofs.YtkgploeegbmofaaGreat.Tr
open Go Go.RowKit Go.Aw Go.Aw.Sha Go.Aw.Tree Go.Proofs.YtkgploeegbmofaaGreat.Sh
set_option linter.unusedVariables false
set_option linter.unusedSimpArgs false
set_option maxRecDepth 8000
theorem leaf_c (b:List Nat) (ex:Bool) (h:b.length≤400000000):PCall Tryz.prog 109 [bytesN b ex] (.a ((leafD b).map bc)):=by
 obtain ⟨D,hD⟩:∃ D,D=leafD b:=⟨_,rfl⟩
 have hl:D.length=32:=by rw [hD];exact leafD_len b
 rw [← hD]
 refine pcall_of Tryz.func109 rfl (fun w0 F S0 M0=>?_)
 haveI:PC Tryz.prog 110 [.p (.sl 1 [[.sl 1 [[.v (.int .u8 0)]] true],[bytesP b ex]] true)] True (.a (D.map bc)):=⟨fun _=>by rw [hD];exact PC.call (by omega:b.length≤400000000)⟩
 repeat' (first|refine jx12 ?_|refine jy0 ?_ ?_|exact spF|refine spQ fun hq hq'=>?_|refine spN fun hn=>?_|fail)
 exact rc1 rfl rfl rfl rfl rfl (by simpa using hl) finL_p rfl
instance {b:List Nat} {ex:Bool}:PC Tryz.prog 109 [bytesN b ex] (b.length≤400000000) (.a ((leafD b).map bc)):=⟨leaf_c b ex⟩
end Go.Proofs.YtkgploeegbmofaaGreat.Tr
namespace Go.Aw
open Go Go.RowKit
set_option linter.unusedVariables false
set_option linter.unusedSimpArgs false
def rn2 (c d:Nat):Rn:=fun k=>if k=1000 then some (c,none) else if k=1001 then some (d,none) else none
theorem OCall.two {P:Program} {f:FuncId} {args:List AV} {n nd:Nat} {mo md:MO} {r:AV} {m1 m2:Nat × Option MO} (h:OCall P f args (memL [(1000,(n,some mo)),(1001,(nd,some md))]) r (memL [(1000,m1),(1001,m2)])) (c d:Nat) (hcd:c≠d) :
  OCAt P f (args.map (AV.ren (rn2 c d))) [(c,(n,some (mo.ren (rn2 c d)))),(d,(nd,some (md.ren (rn2 c d))))] [] (r.ren (rn2 c d)) [(c,(m1.1,m1.2.map (MO.ren (rn2 c d)))),(d,(m2.1,m2.2.map (MO.ren (rn2 c d))))]:=by
 have e1:rn2 c d 1000=some (c,none):=by simp [rn2]
 have e2:rn2 c d 1001=some (d,none):=by simp [rn2]
 have e3:∀ k,k≠1000→k≠1001→rn2 c d k=none:=fun k h1 h2=>by simp [rn2,h1,h2]
 refine ocat_of (rn2 c d) (fun x=>if x=c then some (1000,none) else if x=d then some (1001,none) else none) h ?_ ?_ ?_ ?_ ?_ ?_
 ·intro k c' s
  by_cases hk:k=1000
  ·subst hk
   rw [e1]
   by_cases h1:c'=c
   ·subst h1;simp
   ·by_cases h2:c'=d
    ·subst h2;simp [h1,Ne.symm hcd,hcd]
    ·simp [h1,h2,Ne.symm h1]
  ·by_cases hkq:k=1001
   ·subst hkq
    rw [e2]
    by_cases h1:c'=c
    ·subst h1;simp [Ne.symm hcd]
    ·by_cases h2:c'=d
     ·subst h2;simp [h1]
     ·simp [h1,h2,Ne.symm h2]
   ·rw [e3 k hk hkq]
    by_cases h1:c'=c
    ·subst h1;simp [Ne.symm hk]
    ·by_cases h2:c'=d
     ·subst h2;simp [h1,Ne.symm hkq]
     ·simp [h1,h2]
 ·intro k c' hk
  by_cases h1:k=1000
  ·subst h1;rw [e1] at hk;simp at hk;subst hk;simp [memL]
  ·by_cases h2:k=1001
   ·subst h2;rw [e2] at hk;simp at hk;subst hk;simp [memL]
   ·rw [e3 k h1 h2] at hk;cases hk
 ·intro k c' n' hk
  by_cases h1:k=1000
  ·subst h1;rw [e1] at hk;simp at hk
  ·by_cases h2:k=1001
   ·subst h2;rw [e2] at hk;simp at hk
   ·rw [e3 k h1 h2] at hk;cases hk
 ·intro k hk
  have h1:k≠1000:=fun e=>by subst e;rw [e1] at hk;cases hk
  have h2:k≠1001:=fun e=>by subst e;rw [e2] at hk;cases hk
  simp [memL,h1,h2]
 ·intro c' k s hc
  by_cases h1:c'=c
  ·subst h1
   simp at hc;obtain ⟨rfl,rfl⟩:=hc
   exact ⟨by simp [kIn],fun mem=>by simp [putsM,memL]⟩
  ·by_cases h2:c'=d
   ·subst h2
    simp [h1] at hc;obtain ⟨rfl,rfl⟩:=hc
    exact ⟨by simp [kIn],fun mem=>by simp [putsM,memL,h1]⟩
   ·simp [h1,h2] at hc
 ·intro c' hc
  by_cases h1:c'=c
  ·simp [h1] at hc
  ·by_cases h2:c'=d
   ·rw [if_neg h1,if_pos h2] at hc;cases hc
   ·simp only [kIn,Bool.or_false,Bool.or_eq_false_iff]
    exact ⟨Bool.eq_false_iff.2 fun hb=>h1 (Nat.eq_of_beq_eq_true hb),Bool.eq_false_iff.2 fun hb=>h2 (Nat.eq_of_beq_eq_true hb)⟩
theorem ocall_of22 {P:Program} {f:FuncId} {fn:Func} {body:Code} {args:List AV} {r:AV} {m0 m1 k0 k1:Nat × Option MO} (hf:P.funcs[f]?=some fn) (hb:fn.body=some body)
  (h:∀ w0 F S0 M0,AWs ⟨P,w0,F,S0,max args.length fn.ntmps,none,M0⟩ [body] (RetO P fn r (kIn [(1000,m1),(1001,k1)]) (memL [(1000,m1),(1001,k1)])) ⟨fun t=>args.getD t .un,memL [(1000,m0),(1001,k0)]⟩):OCall P f args (memL [(1000,m0),(1001,k0)]) r (memL [(1000,m1),(1001,k1)]):=by
 refine ocall_of (kIn [(1000,m1),(1001,k1)]) hf hb (fun o ho=>?_) h
 have h1:o≠1000:=fun e=>by subst e;simp [kIn] at ho
 have h2:o≠1001:=fun e=>by subst e;simp [kIn] at ho
 simp [memL,h1,h2]
theorem lop_sl_osl_u {C:Ctx} {o:Oper} {σ:St} {T e:TypeId} {x xl:Operand} {sz by_:Nat} {ke:TK} {sze be:Nat} {ob g len:Nat} {kl:IntKind} {l:Int} (ho:o.op=.slice T x (some xl) none none) (hT:TI C.P T (.slice e) sz by_) (he:TI C.P e ke sze be) (hx:σ.look x=.o (.osl ob g sze 0 len)) (hlo:σ.look xl=.p (.v (.int kl l))) (h0:0≤l) (h1:l≤len) (hd:dOk C o.dst=true) :
  LOp C o σ ⟨.un,[]⟩ (fun _=>false):=
 lop_val hd fun τ a w G hl hm' hr=>by
  obtain ⟨m,c,k1,k2,k3⟩:=look_of hr ((hl x (by simp [ho,Op.operands])).trans hx)
  have e1:=val_of hr ((hl xl (by simp [ho,Op.operands])).trans hlo)
  obtain ⟨d,hdd,hkk⟩:=hT.undd
  have:d=.slice e:=by cases d<;>simp [TK.of] at hkk;rw [hkk]
  subst this
  simp only [Nat.zero_mul,Nat.sub_zero,Nat.zero_add] at k2 k3
  have hb:(Instr.sliceBounds true len c (some (.int kl l)) none none).run C.P w=.ok (l.toNat,len,c) w:=by simp [Instr.sliceBounds,run_sb h0 h1]
  refine ⟨.slice (if c=l.toNat then m.map (fun b=>(⟨b,0,none⟩:Addr)) else (m.map fun b=>(⟨b,0,none⟩:Addr)).map (·.add (l.toNat * sze))) (len - l.toNat) (c - l.toNat),?_,trivial⟩
  simp only [execOp,ho,Instr.sliceAt,Sem.run_bind,run_underlying hdd,Result.andThen_ok,Instr.slice,k3,e1,Option.map_some,Option.map_none,hb,he.run_sizeOf,Sem.run_pure]
end Go.Aw
