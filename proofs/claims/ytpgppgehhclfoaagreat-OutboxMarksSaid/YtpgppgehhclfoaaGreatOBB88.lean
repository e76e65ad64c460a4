/- THE ABSTRACT WALK, part 29: slices.SortFunc at elements of k cells, as a contract on an own slice: out of the kit's own theorem. Nothing here speaks of a program. -/
import Derived.Test.YtpgppgehhclfoaaGreatOBA04
import Derived.Shelf.SlSortCmp.NoneTotal
import Derived.Test.YtpgppgehhclfoaaGreatOBA08
import Derived.Test.YtpgppgehhclfoaaGreatLy
import Derived.Test.YtpgppgehhclfoaaGreatOBA09
import Derived.Test.YtpgppgehhclfoaaGreatOBB46
import Derived.Test.YtpgppgehhclfoaaGreatOBB84
import Derived.Test.YtpgppgehhclfoaaGreatOBA06
import Derived.Test.YtpgppgehhclfoaaGreatOBB79
import Derived.Lib.Overlaps
import Derived.Lib.AppendZerosOnto
import Derived.Laws.Externs
import Derived.Test.YtpgppgehhclfoaaGreatOBA07
import Derived.Test.YtpgppgehhclfoaaGreatOBA05
namespace Go.Aw
open Go Go.RowKit Go.Proofs Go.Shelf Go.Sort
set_option linter.unusedVariables false
set_option linter.unusedSimpArgs false
theorem grow_of {w w':World} (h:Below w.heap.size w w') (hd:w.drawn≤w'.drawn):∃ q os,w'=Go.Sort.grow (w.drewN q) os:=by
  refine ⟨w'.drawn - w.drawn,w'.heap.extract w.heap.size w'.heap.size,?_⟩
  have hheap:w'.heap=w.heap++w'.heap.extract w.heap.size w'.heap.size:=by
    apply Array.ext_getElem?
    intro k
    rcases Nat.lt_or_ge k w.heap.size with hk|hk
    · rw [Array.getElem?_append_left hk];exact h.block k hk
    · rw [Array.getElem?_append_right hk,Array.getElem?_extract]
      rcases Nat.lt_or_ge k w'.heap.size with h2|h2
      · rw [if_pos (by omega)];congr 1;omega
      · rw [if_neg (by omega),Array.getElem?_eq_none h2]
  obtain ⟨heap',tape',drawn',os',output'⟩:=w'
  obtain ⟨h1,h2,h3,h4,h5⟩:=h
  simp only at h1 h2 h3 hd hheap
  unfold Go.Sort.grow World.drewN
  simp only [h1,h2,h3]
  rw [← hheap]
  congr 1
  omega
abbrev vrow (c:List Value):List PVal:=c.map PVal.v
theorem HoldsK.of_rows {α:Type} [Inhabited α] {enc:α→List Value} {k:Nat} (h0:0 < k) (hk:∀ x,(enc x).length=k) {X:Wd} {b ty:Nat} {arr:Array Value} {l:List α} (hheap:X.w.heap[b]?=some (.cells arr ty (0,0))) (hrows:RowsAt X arr 0 k (l.map fun x=>vrow (enc x))):HoldsK enc k X.w b 0 l.toArray:=by
  intro j hj
  rw [size_flatK] at hj
  have hj':j < l.length * k:=by simpa using hj
  have hjk:j / k < l.length:=Nat.div_lt_of_lt_mul (by rw [Nat.mul_comm];exact hj')
  have hmod:=Nat.mod_lt j h0
  have hdm:j / k * k+j % k=j:=by rw [Nat.mul_comm];exact Nat.div_add_mod j k
  have hrow:(l.map fun x=>vrow (enc x))[j / k]?=some (vrow (enc l[j / k])):=by simp [hjk]
  have hel:j % k < (enc l[j / k]).length:=by rw [hk];exact hmod
  obtain ⟨_,hcell⟩:=hrows _ _ hrow
  obtain ⟨cv,hcv,hval⟩:=hcell (j % k) (PVal.v (enc l[j / k])[j % k]) (by simp [hel])
  have e1:(flatK enc k l.toArray)[j]! = (enc l[j / k])[j % k]:=by
    rw [get_flatK enc k l.toArray j hj]
    have:l.toArray[j / k]! = l[j / k]:=by simp [hjk]
    rw [this];simp [hel]
  rw [e1]
  obtain ⟨hcv',_⟩:=hval
  rw [hcv'] at hcv
  rw [show 0+j / k * k+j % k=0+j by omega] at hcv
  refine ⟨?_,?_⟩
  · simp only [World.cell?,hheap]
    simpa using hcv
  · simp only [World.frozen?,hheap]
    simp
theorem sorted_heap {α:Type} [Inhabited α] {enc:α→List Value} {k:Nat} {w:World} {b ty n2:Nat} {arr:Array Value} {d:Array α} {os:Array Obj} (hheap:w.heap[b]?=some (.cells arr ty (0,0))) :
    (sortWorldK enc k w b 0 n2 d os).heap[b]?=some (.cells (putCells id 0 (flatK enc k d) arr) ty (0,0))∧(∀ q,q < w.heap.size→q≠b→(sortWorldK enc k w b 0 n2 d os).heap[q]?=w.heap[q]?)∧w.heap.size≤(sortWorldK enc k w b 0 n2 d os).heap.size:=by
  have hb:b < w.heap.size:=(Array.getElem?_eq_some_iff.1 hheap).1
  have e:(sortWorldK enc k w b 0 n2 d os).heap=w.heap.modify b (onCells (putCells id 0 (flatK enc k d)))++os:=rfl
  rw [e]
  refine ⟨?_,fun q hq hne=>?_,?_⟩
  · rw [Array.getElem?_append_left (by simpa using hb),Array.getElem?_modify,if_pos rfl,hheap];rfl
  · rw [Array.getElem?_append_left (by simpa using hq),Array.getElem?_modify,if_neg (fun e=>hne e.symm)]
  · simp
theorem sorted_rows {α:Type} [Inhabited α] {enc:α→List Value} {k:Nat} (h0:0 < k) (hk:∀ x,(enc x).length=k) (h1:∀ x,∀ v∈enc x,v.oneCell'=true) {X:Wd} {arr:Array Value} {s:List α} (hs:s.length * k≤arr.size):RowsAt X (putCells id 0 (flatK enc k s.toArray) arr) 0 k (s.map fun x=>vrow (enc x)):=by
  intro i row hr
  rw [List.getElem?_map] at hr
  cases hx:s[i]? with
  | none=>rw [hx] at hr;cases hr
  | some x=>
    rw [hx] at hr;simp at hr;subst hr
    have hi:i < s.length:=(List.getElem?_eq_some_iff.1 hx).1
    have hxi:s[i]=x:=(List.getElem?_eq_some_iff.1 hx).2
    refine ⟨by simp [hk],fun j p hp=>?_⟩
    have hjl:j < k:=by have:=(List.getElem?_eq_some_iff.1 hp).1;simpa [hk] using this
    have hj:j < (enc x).length:=by rw [hk];exact hjl
    obtain rfl:p=PVal.v (enc x)[j]:=by simpa [hj] using hp.symm
    have hik:i * k+j < s.length * k:=by
      have:=Nat.mul_le_mul_right k (show i+1≤s.length from hi)
      rw [Nat.add_mul,Nat.one_mul] at this;omega
    refine ⟨(enc x)[j],?_,rfl,h1 x _ (List.getElem_mem _)⟩
    have hd:(i * k+j) / k=i:=by rw [Nat.mul_comm,Nat.mul_add_div h0,Nat.div_eq_of_lt hjl];omega
    have hm:(i * k+j) % k=j:=by rw [Nat.mul_comm,Nat.mul_add_mod,Nat.mod_eq_of_lt hjl]
    have e1:(flatK enc k s.toArray)[i * k+j]! = (enc x)[j]:=by
      rw [get_flatK enc k s.toArray (i * k+j) (by simpa using hik),hd,hm]
      have:s.toArray[i]! = x:=by simp [hi,hxi]
      rw [this];simp [hj]
    unfold putCells
    rw [Array.getElem?_mapIdx,Array.getElem?_eq_getElem (by omega)]
    simp only [Option.map_some,Option.some.injEq,id_eq]
    rw [if_pos ⟨by omega,by rw [size_flatK];simpa using hik⟩,show 0+i * k+j - 0=i * k+j by omega,e1]
theorem sort_o {P:Program} {ρ:Ren} {α:Type} [Inhabited α] (L:SlLaysF0.n6 P ρ) (k:Nat) (h0:0 < k) (aE:∀ w,(isAgg (ρ.t 24)).run P w=.ok true w) (zE:∀ w,(Go.sizeOf (ρ.t 24)).run P w=.ok k w) (enc:α→List Value) (hk:∀ x,(enc x).length=k) (h1:∀ x,∀ v∈enc x,v.oneCell'=true)
    (cf:α→α→Int) (hO:SWO (ltOf cf)) (hT:∀ x y,(ltOf cf) x y=false→(ltOf cf) y x=false→x=y) (g:Nat) (hfn:FnT P g) (hcmp:∀ x y,PCall P g [.a ((vrow (enc x)).map .p),.a ((vrow (enc y)).map .p)] (.p (.i (cf x y)))) (ty n:Nat) (l:List α) (hl:l.length < 4611686018427387904) :
    OCall P (ρ.f 6) [.o (.osl 1000 n k 0 l.length),.p (.v (.func (.func g) #[] #[]))] (memL [(1000,(n+1,some (.buf ty k (l.map fun x=>vrow (enc x)))))]) (.tup []) (memL [(1000,(n+1,some (.buf ty k ((l.mergeSort fun x y=>!(ltOf cf) y x).map fun x=>vrow (enc x)))))]):=by
  intro w G vs hOb ha
  obtain ⟨v0,vs1,rfl,hv0,ha1⟩:=ha.cons_inv
  obtain ⟨v1,vs2,rfl,hv1,ha2⟩:=ha1.cons_inv
  obtain rfl:=ha2.nil_inv
  obtain ⟨m,c,hμ,hlen,rfl⟩:=hv0
  obtain ⟨rfl,_⟩:=hv1
  obtain ⟨g',m',hg',hm',hes,hcap,hlen2,hh⟩:=hOb.mem 1000 (n+1) _ rfl
  obtain rfl:n=g':=by omega
  rw [hμ] at hm';obtain rfl:=Option.some.inj hm'
  obtain ⟨fnn,k1,k2,k3⟩:=hfn.fn
  have hname : ¬ fnn.name = "runtime.NumGoroutine" := by simpa using k2
  have eg:∀ (args:Array Value) (w:World),(callFunc g args).run P w=.ok (.enter g args) w:=fun args w=>by
    cases hbody:fnn.body with
    | none=>simp [hbody] at k3
    | some c=>simp [callFunc,program,Sem.run,Sem.run_bind,k1,hbody,pure,hname]
  rw [List.length_map] at hlen2
  simp only at hcap hlen2 hh
  rcases hh with ⟨hn,hc0,hφ⟩ | ⟨b,arr,hb,hφ,hheap,hsz,hrows⟩
  · subst hn hc0
    have hl0:l=[]:=List.eq_nil_of_length_eq_zero (by omega)
    subst hl0
    refine (AnyF.slices_SortFunc_none L none (0 - 0) (.func (.func g) #[] #[]) w).mono ?_
    rintro e w' ⟨rfl,rfl⟩
    exact ⟨.tuple #[],G,rfl,⟨[],rfl,.nil⟩,by simpa using hOb,fun b h=>h,fun b h=>.inl h,fun o b h=>.inr ⟨o,h⟩,Mu.le.refl _,⟨rfl,.same,rfl,Nat.le_refl _,fun _ _ _=>rfl⟩⟩
  · subst hb
    have hblk:b < w.heap.size:=(Array.getElem?_eq_some_iff.1 hheap).1
    have hflat:HoldsK enc k w b 0 l.toArray:=HoldsK.of_rows (X:=⟨w,G.S⟩) h0 hk hheap hrows
    have hcl:CmpLays P g #[] enc k cf b 0 l.toArray.size w:=by
      intro mm os dk hs x y
      have hall:∀ z:α,All2 (AC.holds Mu.none ⟨sortWorldK enc k w b 0 mm dk os,fun _=>False⟩) ((vrow (enc z)).map .p) (enc z):=fun z=>by
        refine ⟨by simp,fun i c v hc hv=>?_⟩
        simp only [List.getElem?_map] at hc
        rw [hv] at hc
        simp at hc;subst hc
        exact ⟨rfl,h1 z v (List.mem_of_getElem? hv)⟩
      refine (hcmp x y (sortWorldK enc k w b 0 mm dk os) (fun _=>False) [.agg (enc x).toArray,.agg (enc y).toArray] (fun _ h=>h.elim) (.cons ⟨enc x,rfl,hall x⟩ (.cons ⟨enc y,rfl,hall y⟩ .nil))).mono ?_
      rintro e w' ⟨v,rfl,⟨S',_,_,hr⟩,hb,hd⟩
      obtain ⟨rfl,_⟩:=hr
      exact ⟨rfl,grow_of hb hd⟩
    have hgo:=AnyQ.slices_SortFunc_total L k aE zE enc hk h1 cf hO g #[] b 0 (c - 0) l.toArray w eg hcl hflat hblk (by simpa using hl) hT
    simp only [List.size_toArray] at hgo
    have hargs:(#[.slice (some ⟨b,0,none⟩) l.length (c - 0),.func (.func g) #[] #[]]:Array Value)=[Value.slice (Option.map (fun b=>⟨b,0 * k,none⟩) (some b)) l.length (c - 0),.func (.func g) #[] #[]].toArray:=by simp
    rw [← hargs]
    refine hgo.mono ?_
    rintro e w' ⟨rfl,n2,os,rfl⟩
    have hSl:(l.mergeSort fun x y=>!(ltOf cf) y x).length=l.length:=List.length_mergeSort ..
    obtain ⟨q1,q2,q3⟩:=sorted_heap (enc:=enc) (k:=k) (n2:=n2) (d:=(l.mergeSort fun x y=>!(ltOf cf) y x).toArray) (os:=os) hheap
    have hsame:∀ q,G.S q→(sortWorldK enc k w b 0 n2 (l.mergeSort fun x y=>!(ltOf cf) y x).toArray os).heap[q]?=w.heap[q]?:=fun q hq=>q2 q (hOb.sbd q hq) fun e=>hOb.stab 1000 b (by rw [hφ];simp) (e ▸ hq)
    refine ⟨.tuple #[],G,rfl,⟨[],rfl,.nil⟩,?_,fun b h=>h,fun b h=>.inl h,fun o b h=>.inr ⟨o,h⟩,Mu.le.refl _,⟨rfl,⟨rfl,Nat.le_add_right _ _⟩,rfl,q3,fun q hq hn=>q2 q hq fun e=>hn ⟨1000,by rw [hφ,e];simp⟩⟩⟩
    exact {
      gens:=fun o=>by
        have:=hOb.gens o
        by_cases ho:o=1000
        · subst ho;simpa [memL] using this
        · simpa [memL,ho] using this
      mem:=fun o n' mo ho=>by
        by_cases hq:o=1000
        · subst hq
          simp only [memL,if_true,Prod.mk.injEq,Option.some.injEq] at ho
          obtain ⟨rfl,rfl⟩:=ho
          refine ⟨n,(some b,c),rfl,hμ,hes,hcap,by rw [List.length_map,hSl];exact hlen2,.inr ⟨b,_,rfl,hφ,q1,?_,?_⟩⟩
          · simp [putCells,hsz]
          · exact sorted_rows h0 hk h1 (by rw [hSl,hsz];exact Nat.mul_le_mul_right k hlen2)
        · simp [memL,hq] at ho
      apart:=hOb.apart
      stab:=hOb.stab
      own:=fun o b hb=>Nat.lt_of_lt_of_le (hOb.own o b hb) q3
      sbd:=fun b hb=>Nat.lt_of_lt_of_le (hOb.sbd b hb) q3 }
end Go.Aw
namespace Go.Proofs.YtpgppgehhclfoaaGreat.Ca
open Go Go.RowKit Go.Aw Go.Aw.Cart Go.Sort
set_option linter.unusedVariables false
set_option linter.unusedSimpArgs false
set_option maxRecDepth 8000
set_option maxHeartbeats 4000000
def encD (d:Dot):List Value:=[.int .i64 d.1,.int .u64 d.2]
instance {a b:Ent}:Decidable (ltE a b):=by unfold ltE;infer_instance
instance {a b:Dot}:Decidable (ltD a b):=by unfold ltD;infer_instance
theorem ltE_of {x y:Ent}:ltOf ordE x y=decide (ltE x y):=decide_eq_decide.2 ordE_lt
theorem ltD_of {x y:Dot}:ltOf cmpD x y=decide (ltD x y):=decide_eq_decide.2 cmpD_lt
theorem swoD:SWO (ltOf cmpD) where
 irrefl x:=by rw [ltD_of];exact decide_eq_false (by unfold ltD;omega)
 trans x y z h1 h2:=by
  rw [ltD_of] at *
  have k1:=of_decide_eq_true h1
  have k2:=of_decide_eq_true h2
  refine decide_eq_true ?_
  unfold ltD at *;omega
 ntrans x y z h1 h2:=by
  rw [ltD_of] at *
  have k1:=of_decide_eq_false h1
  have k2:=of_decide_eq_false h2
  refine decide_eq_false ?_
  unfold ltD at *;omega
theorem totE (x y:Ent) (h1:ltOf ordE x y=false) (h2:ltOf ordE y x=false):x=y:=by
 rw [ltE_of] at *
 have k1:=of_decide_eq_false h1
 have k2:=of_decide_eq_false h2
 obtain ⟨a,b,c,d⟩:=x
 obtain ⟨a',b',c',d'⟩:=y
 unfold ltE at *
 simp only at k1 k2
 simp only [Prod.mk.injEq];omega
theorem totD (x y:Dot) (h1:ltOf cmpD x y=false) (h2:ltOf cmpD y x=false):x=y:=by
 rw [ltD_of] at *
 have k1:=of_decide_eq_false h1
 have k2:=of_decide_eq_false h2
 obtain ⟨a,b⟩:=x
 obtain ⟨a',b'⟩:=y
 unfold ltD at *
 simp only at k1 k2
 simp only [Prod.mk.injEq];omega
def sortE (l:List Ent):List Ent:=l.mergeSort fun x y=>!(ltOf ordE) y x
def sortD (l:List Dot):List Dot:=l.mergeSort fun x y=>!(ltOf cmpD) y x
theorem sortD_o (n:Nat) (l:List Dot) (h:l.length≤1000000000):OCall Tryz.prog 219 [.o (.osl 1000 n 2 0 l.length),.p (.v (.func (.func 220) #[] #[]))] (memL [(1000,(n+1,some (.buf 239 2 (l.map dR))))]) (.tup []) (memL [(1000,(n+1,some (.buf 239 2 ((sortD l).map dR))))]):=
 sort_o (ρ:=Tryz.lay219_ren) Tryz.lay219 2 (by decide) (TI.run_isAgg (inferInstance:TI Tryz.prog 239 _ _ _)) (TI.run_sizeOf (inferInstance:TI Tryz.prog 239 _ _ _)) encD (fun _=>rfl)
  (fun x v hv=>by simp [encD] at hv;rcases hv with rfl|rfl<;>rfl) cmpD swoD totD 220 inferInstance (fun x y=>cmpD_w x y) _ n l (by omega)
instance {c g n:Nat} {l:List Dot}:OC Tryz.prog 219 [.o (.osl c g 2 0 l.length),.p (.v (.func (.func 220) #[] #[]))] [(c,(n,some (.buf 239 2 (l.map dR))))] [] (n=g+1∧l.length≤1000000000) (.tup []) [(c,(n,some (.buf 239 2 ((sortD l).map dR))))]:=⟨fun h=>by obtain ⟨rfl,h⟩:=h;exact (sortD_o g l h).one c⟩
theorem sortE_len (l:List Ent):(sortE l).length=l.length:=List.length_mergeSort ..
theorem sortD_len (l:List Dot):(sortD l).length=l.length:=List.length_mergeSort ..
end Go.Proofs.YtpgppgehhclfoaaGreat.Ca
namespace Go.Proofs.YtpgppgehhclfoaaGreat.Ca
open Go Go.RowKit Go.Aw Go.Aw.Cart
set_option linter.unusedVariables false
set_option linter.unusedSimpArgs false
set_option maxRecDepth 8000
set_option maxHeartbeats 4000000
theorem valuesD_w (l:List Dot) (ex:Bool):PCall Tryz.prog 210 [.p (.sl 2 (l.map dR) ex)] (.p (.fnv 222 [.bx [.sl 2 (l.map dR) ex] 0])):=by
 refine pcall_of Tryz.func210 rfl (fun w0 F S0 M0=>?_)
 repeat' (first|refine jx2 ?_|refine jy0 ?_ ?_|exact spF|refine spQ fun hq hq'=>?_|refine spN fun hn=>?_|fail)
 exact rt1 rfl rfl finS_p rfl
instance {l:List Dot} {ex:Bool}:PC Tryz.prog 210 [.p (.sl 2 (l.map dR) ex)] True (.p (.fnv 222 [.bx [.sl 2 (l.map dR) ex] 0])):=⟨fun _=>valuesD_w l ex⟩
theorem iterD_w (l:List Dot) (ex:Bool) (h:l.length≤1000000000):ICall Tryz.prog 222 [.bx [.sl 2 (l.map dR) ex] 0] (l.map dV):=by
 refine icall_of Tryz.func222 rfl (fun w0 F S0 M0 I yv hone hY=>?_)
 simp only [List.length_map]
 repeat' (first|refine jx2 ?_|refine jy0 ?_ ?_|exact spF|refine spQ fun hq hq'=>?_|refine spN fun hn=>?_|fail)
 refine aws_loopS [4,7,8,9,10,11,12,13,14,15] [1000,4] (fun (x:Nat × Option MO)=>[(7,.p (.i x.1))]) (fun x=>[(1000,(1,some (.abs (I x.1)))),(4,(x.1,x.2))])
  (fun x=>x.1≤l.length) (fun x=>l.length - x.1) (0,none) (Nat.zero_le _) (by exact knA) (by exact knA) ?_
 rintro ⟨i,c4⟩ β γ hi
 simp only at hi
 dsimp only
 by_cases hil:i < l.length
 ·have hd:decide ((i:Int) < (l.length:Int))=true:=decide_eq_true (by omega)
  have hy:=hY i (dV (l.getD (i:Int).toNat default)) (by rw [Int.toNat_natCast,List.getElem?_map,List.getD_eq_getElem?_getD,List.getElem?_eq_getElem hil];rfl)
  repeat' (first|refine jx2 ?_|refine jy0 ?_ ?_|exact spF|refine spQ fun hq hq'=>?_|refine spN fun hn=>?_|fail)
  exact ⟨(i+1,some (.box 239 (dL (l.getD (i:Int).toNat default)))),_,by dsimp only;omega,by dsimp only;omega,.refl,by exact frA⟩
 ·have hd:decide ((i:Int) < (l.length:Int))=false:=decide_eq_false (by omega)
  obtain rfl:i=l.length:=by omega
  repeat' (first|refine jx2 ?_|refine jy0 ?_ ?_|exact spF|refine spQ fun hq hq'=>?_|refine spN fun hn=>?_|fail)
  show RetO _ _ _ _ _ .normal _
  exact RetO.mk (res0 rfl rfl) ⟨.abs,trivial⟩
end Go.Proofs.YtpgppgehhclfoaaGreat.Ca
namespace Go.Proofs.YtpgppgehhclfoaaGreat.Ca
open Go Go.RowKit Go.Aw Go.Aw.Cart
set_option linter.unusedVariables false
set_option linter.unusedSimpArgs false
set_option maxRecDepth 8000
set_option maxHeartbeats 4000000
theorem lop_bst4 {C:Ctx} {o:Oper} {σ:St} {T e:TypeId} {x0:Operand} {sz by_ es be:Nat} {ke:TK} {z:List Value} {p0 p1 p2 p3:PVal} (ho:o.op=.buildSlice T 1 #[(0,x0)]) (hT:TI C.P T (.slice e) sz by_) (he:TI C.P e ke es be) (hz:TZ C.P e z) (h0:σ.look x0=.a [.p p0,.p p1,.p p2,.p p3]) (hes:es=4) (hd:dOk C o.dst=true) :
  LOp C o σ ⟨.p (.sl es [[p0,p1,p2,p3]] true),[]⟩ (fun _=>false):=by
 subst hes
 exact lop_buildSlice (ps:=[(0,[p0,p1,p2,p3])]) ho (.cons ⟨rfl,by simp,_,h0,by simp [SV.cells]⟩ .nil) rfl (by omega) (by omega) hd
theorem Agr.put' {σ τ:St} {W M:List Nat} {o:Nat} {m:Nat × Option MO} (h:Agr σ W (o::M) τ):Agr (σ.put o m) W M (τ.put o m):=⟨h.env,fun t ht=>by
 by_cases e:t=o
 ·subst e;simp [St.put]
 ·have hb:Nat.beq t o=false:=Bool.eq_false_iff.2 (fun k=>e (Nat.eq_of_beq_eq_true k))
  have:=h.mem t (by simp only [memb,hb,ht,Bool.or_self])
  simp [St.put,e,this]⟩
namespace C5
theorem lopC {C:Ctx} {o:Oper} {σ:St} {e:Eff} {ro:Nat→Bool} (h:LOp C o σ e ro:=by
  first|(apply lop_bst4;(focus rfl);(focus exact inferInstance);(focus exact inferInstance);(focus exact inferInstance);(focus rfl);(focus rfl);(focus rfl))|exact lopJ|fail):LOp C o σ e ro:=h
section steps
variable {C:Ctx} {ops:Array Oper} {o:Oper} {rest:List Oper} {K:St→Prop} {σ:St} {e:Eff} {ro:Nat→Bool} {W:List (Nat × Nat)} {i:Nat}
theorem rnC {d:Nat} (hg:Guard ops σ o true:=by first|exact gd_n rfl rfl|exact gd_t rfl rfl rfl rfl|exact gd_t rfl rfl rfl (by assumption)) (hd:o.dst=some d:=by rfl) (h:LOp C o σ e ro:=by exact lopC) (hk:RunN C ops rest K (e.app (some d) σ)):RunN C ops (o::rest) K σ:=rn_any hg hd h hk
end steps
end C5
open C5
end Go.Proofs.YtpgppgehhclfoaaGreat.Ca
namespace Go.Proofs.YtpgppgehhclfoaaGreat.Ca
open Go Go.RowKit Go.Aw Go.Aw.Cart
set_option linter.unusedVariables false
set_option linter.unusedSimpArgs false
set_option maxRecDepth 8000
set_option maxHeartbeats 4000000
end Go.Proofs.YtpgppgehhclfoaaGreat.Ca
namespace Go.Proofs.YtpgppgehhclfoaaGreat.Ca
open Go Go.RowKit Go.Aw Go.Aw.Cart
set_option linter.unusedVariables false
set_option linter.unusedSimpArgs false
set_option maxRecDepth 8000
set_option maxHeartbeats 4000000
namespace G
theorem lop_bst2 {C:Ctx} {o:Oper} {σ:St} {T e:TypeId} {x0:Operand} {sz by_ es be:Nat} {ke:TK} {z:List Value} {p0 p1:PVal} (ho:o.op=.buildSlice T 1 #[(0,x0)]) (hT:TI C.P T (.slice e) sz by_) (he:TI C.P e ke es be) (hz:TZ C.P e z) (h0:σ.look x0=.a [.p p0,.p p1]) (hes:es=2) (hd:dOk C o.dst=true) :
  LOp C o σ ⟨.p (.sl es [[p0,p1]] true),[]⟩ (fun _=>false):=by
 subst hes
 exact lop_buildSlice (ps:=[(0,[p0,p1])]) ho (.cons ⟨rfl,by simp,_,h0,by simp [SV.cells]⟩ .nil) rfl (by omega) (by omega) hd
theorem lopC {C:Ctx} {o:Oper} {σ:St} {e:Eff} {ro:Nat→Bool} (h:LOp C o σ e ro:=by
  first|(apply lop_bst2;(focus rfl);(focus exact inferInstance);(focus exact inferInstance);(focus exact inferInstance);(focus rfl);(focus rfl);(focus rfl))|exact lopY|fail):LOp C o σ e ro:=h
section steps
variable {C:Ctx} {ops:Array Oper} {o:Oper} {rest:List Oper} {K:St→Prop} {σ:St} {e:Eff} {ro:Nat→Bool} {W:List (Nat × Nat)} {i:Nat}
theorem rnC {d:Nat} (hg:Guard ops σ o true:=by first|exact gd_n rfl rfl|exact gd_t rfl rfl rfl rfl|exact gd_t rfl rfl rfl (by assumption)) (hd:o.dst=some d:=by rfl) (h:LOp C o σ e ro:=by exact lopC) (hk:RunN C ops rest K (e.app (some d) σ)):RunN C ops (o::rest) K σ:=rn_any hg hd h hk
theorem rkC {d:Nat} (hg:Guard ops σ o true:=by first|exact gd_n rfl rfl|exact gd_t rfl rfl rfl rfl|exact gd_t rfl rfl rfl (by assumption)) (hd':o.dst=some d:=by rfl) (hd:dOk C o.dst=true:=by rfl) (h:LOp C o σ e ro:=by exact lopC) (hro:∀ x,ro x=true→okObj ops W i x=true:=by first|exact fun _=>ro_none|exact ro_one rfl|exact ro_one (by kernel_rfl)|exact ro_kIn (by decide)) (hob:∀ p∈e.obj,(i,p.1)∈W:=by first|exact ob_none|exact ob_one (by decide)|decide) (hk:RunK C ops W (i+1) rest K (e.app (some d) σ)):RunK C ops W i (o::rest) K σ:=rk_wr hg hd' hd h hro hob hk
end steps
instance {c g n len:Nat} {l:List Dot}:OC Tryz.prog 221 [.o (.osl c g 2 0 len)] [(c,(n,some (.buf 239 2 (l.map dR))))] [] (len=l.length∧n=g+1∧l.length≤1000000000) (.o (.osl c g 2 0 (comp l).length)) [(c,(n,some (.buf 239 2 ((comp l).map dR))))]:=⟨fun h=>by obtain ⟨rfl,rfl,h⟩:=h;exact (compactD_o g l h).one c⟩
def setTo (l:List Dot) (j:Nat):List Dot:=(l.take j).filter dotF
theorem setTo_succ {l:List Dot} {j:Nat} (h:j < l.length):setTo l (j+1)=setTo l j++(if dotF (l.getD j default)=true then [l.getD j default] else []):=by
 have e:l.getD j default=l[j]:=by rw [List.getD_eq_getElem?_getD,List.getElem?_eq_getElem h];rfl
 rw [setTo,setTo,List.take_succ_eq_append_getElem h,List.filter_append,e]
 congr 1
 by_cases hx:dotF l[j]=true
 ·rw [if_pos hx,List.filter_cons_of_pos hx,List.filter_nil]
 ·rw [if_neg hx,List.filter_cons_of_neg hx,List.filter_nil]
theorem setTo_len {l:List Dot} {j:Nat}:(setTo l j).length≤l.length:=by
 unfold setTo
 exact Nat.le_trans (List.length_filter_le _ _) (by rw [List.length_take];omega)
def dotsOf (l:List Dot):List Dot:=(comp (sortD (l.filter dotF))).take 2000
theorem set_w (f:FuncId) (caps:List PVal) (hf:FnT Tryz.prog f) (l:List Dot) (h:l.length≤1000000000) (hI:ICall Tryz.prog f caps (l.map dV)):PCall Tryz.prog 209 [.p (.fnv f caps)] (.p (.sl 2 ((dotsOf l).map dR) false)):=by
 refine pcall_of Tryz.func209 rfl (fun w0 F S0 M0=>?_)
 repeat' (first|refine jx3 ?_|refine jy0 ?_ ?_|exact spF|refine spQ fun hq hq'=>?_|refine spN fun hn=>?_|fail)
 refine aws_says (says_nil_box (p:=3) (o:=900) (ty:=239) (es:=2) rfl rfl (by decide) (by decide)) ?_
 refine aws_block ?_
 refine aws_range (ι:=Option MO × Nat × Nat × List Dot) [4,6,7,8,9,10,11,12] [3,4,900] (fun x=>[(3,(1,some (.box 242 [.osl 900 x.2.2.1 2 0 x.2.2.2.length]))),(4,(x.2.1,x.1)),(900,(x.2.2.1+1,some (.buf 239 2 (x.2.2.2.map dR))))])
  (fun j x=>x.2.2.2=setTo l j∧x.2.1=j∧j≤l.length) (none,0,0,[]) rfl hf hI rfl ?_ rfl rfl (fun i=>rfl) rfl ⟨rfl,rfl,Nat.zero_le _⟩ (by exact knA) ?_ ?_
 ·intro x hx
  simp only [List.mem_map] at hx
  obtain ⟨e,_,rfl⟩:=hx
  exact inferInstance
 ·rintro j x hjx ⟨c5,g,k,m⟩ γ w0 F S0 M0 lp R R' ⟨hm,hg,hj⟩
  simp only at hm hg
  have hjn:j < l.length:=by
   by_cases hlt:j < l.length
   ·exact hlt
   ·rw [List.getElem?_map,List.getElem?_eq_none (by omega)] at hjx;cases hjx
  obtain rfl:x=dV (l.getD j default):=by
   rw [List.getElem?_map,List.getElem?_eq_getElem hjn] at hjx
   have e:=Option.some.inj hjx
   rw [List.getD_eq_getElem?_getD,List.getElem?_eq_getElem hjn,← e];rfl
  have hml:m.length≤1000000000:=by have:=setTo_len (l:=l) (j:=j);rw [hm];omega
  have hst:=setTo_succ hjn
  dsimp only
  subst hg
  generalize hed:l.getD g default=ed at hst ⊢
  repeat' (first|refine jx3 ?_|refine jy0 ?_ ?_|exact spF|refine spQ fun hq hq'=>?_|refine spN fun hn=>?_|fail)
  refine ⟨rfl,rfl,?_⟩
  cases hv:dotF ed with
  | true=>
   rw [if_pos hv] at hst
   repeat' (first|refine jx3 ?_|refine jy0 ?_ ?_|exact spF|refine spQ fun hq hq'=>?_|refine spN fun hn=>?_|fail)
   refine ⟨rfl,(some (.box 239 (dL ed)),g+1,k+1,m++[ed]),_,⟨by dsimp only;rw [hst,hm],rfl,by omega⟩,.refl,Fr'.mk ?_ (by exact knA) (by exact knA)⟩
   repeat' (first|exact Agr.refl|refine Agr.appg rfl rfl ?_|refine Agr.appgn rfl ?_|refine Agr.set rfl ?_|refine Agr.put rfl ?_|refine Agr.put' ?_|refine Agr.fr ?_ (memb_sub rfl) (memb_sub rfl) rfl rfl)
  | false=>
   rw [if_neg (by rw [hv];simp),List.append_nil] at hst
   repeat' (first|refine jx3 ?_|refine jy0 ?_ ?_|exact spF|refine spQ fun hq hq'=>?_|refine spN fun hn=>?_|fail)
   refine ⟨rfl,(some (.box 239 (dL ed)),g+1,k,m),_,⟨by dsimp only;rw [hst,hm],rfl,by omega⟩,.refl,Fr'.mk ?_ (by exact knA) (by exact knA)⟩
   repeat' (first|exact Agr.refl|refine Agr.appg rfl rfl ?_|refine Agr.appgn rfl ?_|refine Agr.set rfl ?_|refine Agr.put rfl ?_|refine Agr.put' ?_|refine Agr.fr ?_ (memb_sub rfl) (memb_sub rfl) rfl rfl)
 ·rintro ⟨c5,g,k,m⟩ γ ⟨hm,hg,hj⟩
  simp only [List.length_map] at hm hg
  subst hg
  have hm':m=l.filter dotF:=by rw [hm,setTo,List.take_length]
  have hml:m.length≤1000000000:=by have:=setTo_len (l:=l) (j:=l.length);rw [hm];omega
  have hsl:(sortD m).length≤1000000000:=by rw [sortD_len];exact hml
  have hsl':=sortD_len m
  have hcl:=comp_len (sortD m)
  rw [show dotsOf l=(comp (sortD m)).take 2000 by rw [hm'];rfl]
  clear hm hm'
  dsimp only
  by_cases hc:2000 < (comp (sortD m)).length
  ·repeat' (first|refine jx3 ?_|refine jy0 ?_ ?_|exact spF|refine spQ fun hq hq'=>?_|refine spN fun hn=>?_|fail)
   exact rt1 rfl rfl (.one (finC_take rfl rfl rfl (by omega) (by congr 1;omega))) rfl
  ·repeat' (first|refine jx3 ?_|refine jy0 ?_ ?_|exact spF|refine spQ fun hq hq'=>?_|refine spN fun hn=>?_|fail)
   exact rt1 rfl rfl (.one (finC_take rfl rfl rfl (by omega) (by rw [List.take_of_length_le (by omega),List.take_of_length_le (by omega)]))) rfl
end G
end Go.Proofs.YtpgppgehhclfoaaGreat.Ca
namespace Go.Proofs.YtpgppgehhclfoaaGreat.Ca
open Go Go.RowKit Go.Aw Go.Aw.Cart
set_option linter.unusedVariables false
set_option linter.unusedSimpArgs false
set_option maxRecDepth 8000
set_option maxHeartbeats 4000000
namespace D
theorem lopC {C:Ctx} {o:Oper} {σ:St} {e:Eff} {ro:Nat→Bool} (h:LOp C o σ e ro:=by
  first|(apply lop_callv1;(focus rfl);(focus rfl);(focus assumption);(focus first|exact lk_o rfl|exact lk_a rfl);(focus exact inferInstance);(focus exact inferInstance);(focus exact True.intro);(focus rfl))|exact lopQ|fail):LOp C o σ e ro:=h
section steps
variable {C:Ctx} {ops:Array Oper} {o:Oper} {rest:List Oper} {K:St→Prop} {σ:St} {e:Eff} {ro:Nat→Bool} {W:List (Nat × Nat)} {i:Nat}
theorem rnC {d:Nat} (hg:Guard ops σ o true:=by first|exact gd_n rfl rfl|exact gd_t rfl rfl rfl rfl|exact gd_t rfl rfl rfl (by assumption)) (hd:o.dst=some d:=by rfl) (h:LOp C o σ e ro:=by exact lopC) (hk:RunN C ops rest K (e.app (some d) σ)):RunN C ops (o::rest) K σ:=rn_any hg hd h hk
end steps
end D
end Go.Proofs.YtpgppgehhclfoaaGreat.Ca
namespace Go.Proofs.YtpgppgehhclfoaaGreat.Ca
open Go Go.RowKit Go.Aw Go.Aw.Cart
set_option linter.unusedVariables false
set_option linter.unusedSimpArgs false
set_option maxRecDepth 8000
set_option maxHeartbeats 4000000
namespace D
end D
namespace D2
theorem lop_bzE {C:Ctx} {o:Oper} {σ:St} {T e:TypeId} {sz by_:Nat} {ke:TK} {es be:Nat} {z:List Value} {d n0:Nat} {mo0:Option MO} (ho:o.op=.buildSlice T 0 #[]) (hT:TI C.P T (.slice e) sz by_) (he:TI C.P e ke es be) (hz:TZ C.P e z) (hdst:o.dst=some d) (hm0:σ.mem d=(n0,mo0)) (hes:es=4) (hd:dOk C o.dst=true) :
  LOp C o σ ⟨.o (.osl d n0 4 0 ([]:List Ent).length),[(d,(n0+1,some (.buf e 4 (([]:List Ent).map eR))))]⟩ (fun q=>q == d):=by subst hes;exact lop_bo0 ho hT he hz hdst hm0 (by decide) hd
theorem lopC {C:Ctx} {o:Oper} {σ:St} {e:Eff} {ro:Nat→Bool} (h:LOp C o σ e ro:=by
  first|(apply lop_bzE;(focus rfl);(focus exact inferInstance);(focus exact inferInstance);(focus exact inferInstance);(focus rfl);(focus rfl);(focus rfl);(focus rfl))|exact lopQ|fail):LOp C o σ e ro:=h
section steps
variable {C:Ctx} {ops:Array Oper} {o:Oper} {rest:List Oper} {K:St→Prop} {σ:St} {e:Eff} {ro:Nat→Bool} {W:List (Nat × Nat)} {i:Nat}
theorem rnC {d:Nat} (hg:Guard ops σ o true:=by first|exact gd_n rfl rfl|exact gd_t rfl rfl rfl rfl|exact gd_t rfl rfl rfl (by assumption)) (hd:o.dst=some d:=by rfl) (h:LOp C o σ e ro:=by exact lopC) (hk:RunN C ops rest K (e.app (some d) σ)):RunN C ops (o::rest) K σ:=rn_any hg hd h hk
end steps
end D2
end Go.Proofs.YtpgppgehhclfoaaGreat.Ca
namespace Go.Proofs.YtpgppgehhclfoaaGreat.Ca
open Go Go.RowKit Go.Aw Go.Aw.Cart
set_option linter.unusedVariables false
set_option linter.unusedSimpArgs false
set_option maxRecDepth 8000
set_option maxHeartbeats 4000000
end Go.Proofs.YtpgppgehhclfoaaGreat.Ca
namespace Go.Proofs.YtpgppgehhclfoaaGreat.Ca
open Go Go.RowKit Go.Aw Go.Aw.Cart
set_option linter.unusedVariables false
set_option linter.unusedSimpArgs false
set_option maxRecDepth 8000
set_option maxHeartbeats 4000000
theorem lop_neg2 {C:Ctx} {o:Oper} {σ:St} {t:TypeId} {x:Operand} {k:IntKind} {n:Int} (ho:o.op=.unOp .neg t x) (hx:σ.look x=.p (.v (.int k n))) (hd:dOk C o.dst=true) (hw:k.wrap (0 - n)=0 - n):LOp C o σ ⟨.p (.v (.int k (0 - n))),[]⟩ (fun _=>false):=by
 have:=lop_neg ho hx hd
 rwa [hw] at this
namespace CU
theorem lopC {C:Ctx} {o:Oper} {σ:St} {e:Eff} {ro:Nat→Bool} (h:LOp C o σ e ro:=by
  first|exact lop_neg2 rfl rfl rfl (IntWalk.i64_in _ (by omega))|exact lopJ|fail):LOp C o σ e ro:=h
section steps
variable {C:Ctx} {ops:Array Oper} {o:Oper} {rest:List Oper} {K:St→Prop} {σ:St} {e:Eff} {ro:Nat→Bool} {W:List (Nat × Nat)} {i:Nat}
theorem rnC {d:Nat} (hg:Guard ops σ o true:=by first|exact gd_n rfl rfl|exact gd_t rfl rfl rfl rfl|exact gd_t rfl rfl rfl (by assumption)) (hd:o.dst=some d:=by rfl) (h:LOp C o σ e ro:=by exact lopC) (hk:RunN C ops rest K (e.app (some d) σ)):RunN C ops (o::rest) K σ:=rn_any hg hd h hk
end steps
end CU
open CU
end Go.Proofs.YtpgppgehhclfoaaGreat.Ca
namespace Go.Proofs.YtpgppgehhclfoaaGreat.Ca
open Go Go.RowKit Go.Aw Go.Aw.Cart
set_option linter.unusedVariables false
set_option linter.unusedSimpArgs false
set_option maxRecDepth 8000
set_option maxHeartbeats 4000000
abbrev cL (v:List Int) (l:List Ent) (ex:Bool):List AC:=[.p (.k .u64 (v.getD 0 default)),.p (.k .u64 (v.getD 1 default)),.p (.k .u64 (v.getD 2 default)),.p (.k .u64 (v.getD 3 default)),.p (.k .u64 (v.getD 4 default)),.p (.k .u64 (v.getD 5 default)),.p (.k .u64 (v.getD 6 default)),.p (.k .u64 (v.getD 7 default)),.p (.sl 4 (l.map eR) ex)]
abbrev cV (v:List Int) (l:List Ent) (ex:Bool):AV:=.a (cL v l ex)
theorem v8_eq:∀ {v:List Int},v.length=8→v=[v.getD 0 default,v.getD 1 default,v.getD 2 default,v.getD 3 default,v.getD 4 default,v.getD 5 default,v.getD 6 default,v.getD 7 default]
 | [a0,a1,a2,a3,a4,a5,a6,a7],_=>rfl
theorem lk_v8 {σ:St} {x:Operand} {v:List Int} (hv:v.length=8) (h:σ.look x=.a [.p (.k .u64 (v.getD 0 default)),.p (.k .u64 (v.getD 1 default)),.p (.k .u64 (v.getD 2 default)),.p (.k .u64 (v.getD 3 default)),.p (.k .u64 (v.getD 4 default)),.p (.k .u64 (v.getD 5 default)),.p (.k .u64 (v.getD 6 default)),.p (.k .u64 (v.getD 7 default))]):σ.look x=vV v:=by
 rw [h,v8_eq hv];rfl
theorem lk_v8l {σ:St} {x:Operand} {a0 a1 a2 a3 a4 a5 a6 a7:Int} (h:σ.look x=.a [.p (.k .u64 a0),.p (.k .u64 a1),.p (.k .u64 a2),.p (.k .u64 a3),.p (.k .u64 a4),.p (.k .u64 a5),.p (.k .u64 a6),.p (.k .u64 a7)]):σ.look x=vV [a0,a1,a2,a3,a4,a5,a6,a7]:=h
theorem lk_cart {σ:St} {x:Operand} {a0 a1 a2 a3 a4 a5 a6 a7:Int} {l:List Ent} {ex:Bool} (h:σ.look x=.a [.p (.k .u64 a0),.p (.k .u64 a1),.p (.k .u64 a2),.p (.k .u64 a3),.p (.k .u64 a4),.p (.k .u64 a5),.p (.k .u64 a6),.p (.k .u64 a7),.p (.sl 4 (l.map eR) ex)]):σ.look x=cV [a0,a1,a2,a3,a4,a5,a6,a7] l ex:=h
theorem lopV {C:Ctx} {o:Oper} {σ:St} {e:Eff} {ro:Nat→Bool} (h:LOp C o σ e ro:=by
  first|exact lopY|(apply lop_call2;(focus rfl);(focus exact inferInstance);(focus first|exact lk_v8 (by assumption) rfl|exact lk_v8l rfl);(focus first|exact lk_m1 rfl|exact lk_m2 rfl|exact lk_m3 rfl|exact lk_o rfl|exact lk_a2 rfl|exact lk_a3 rfl|exact lk_a4 rfl|exact lk_a1 rfl|exact lk_a5 rfl|exact lk_a6 rfl|exact lk_a7 rfl|exact lk_a8 rfl|exact lk_a rfl);(focus exact inferInstance);(focus exact inferInstance);(focus first|exact True.intro|assumption|rfl|omega|((repeat' (first|assumption|refine And.intro ?_ ?_|omega|rfl));done)|fail);(focus rfl))|(apply lop_call1;(focus rfl);(focus exact inferInstance);(focus exact lk_cart rfl);(focus exact inferInstance);(focus exact inferInstance);(focus first|exact True.intro|assumption|rfl|omega|((repeat' (first|assumption|refine And.intro ?_ ?_|omega|rfl));done)|fail);(focus rfl))|(apply lop_call2;(focus rfl);(focus exact inferInstance);(focus exact lk_cart rfl);(focus first|exact lk_m1 rfl|exact lk_m2 rfl|exact lk_m3 rfl|exact lk_o rfl|exact lk_a2 rfl|exact lk_a3 rfl|exact lk_a4 rfl|exact lk_a1 rfl|exact lk_a5 rfl|exact lk_a6 rfl|exact lk_a7 rfl|exact lk_a8 rfl|exact lk_a rfl);(focus exact inferInstance);(focus exact inferInstance);(focus first|exact True.intro|assumption|rfl|omega|((repeat' (first|assumption|refine And.intro ?_ ?_|omega|rfl));done)|fail);(focus rfl))|fail):LOp C o σ e ro:=h
/-! dots -/
theorem dOf_w (l:List Dot) (ex:Bool) (h:l.length≤1000000000):PCall Tryz.prog 191 [.p (.sl 2 (l.map dR) ex)] (.p (.sl 2 ((G.dotsOf l).map dR) false)):=by
 refine pcall_of Tryz.func191 rfl (fun w0 F S0 M0=>?_)
 haveI:PC Tryz.prog 209 [.p (.fnv 222 [.bx [.sl 2 (l.map dR) ex] 0])] True (.p (.sl 2 ((G.dotsOf l).map dR) false)):=⟨fun _=>G.set_w _ _ inferInstance l h (iterD_w l ex h)⟩
 repeat' (first|refine jx4 ?_|refine jy0 ?_ ?_|exact spF|refine spQ fun hq hq'=>?_|refine spN fun hn=>?_|fail)
 exact rt1 rfl rfl finS_p rfl
instance {l:List Dot} {ex:Bool}:PC Tryz.prog 191 [.p (.sl 2 (l.map dR) ex)] (l.length≤1000000000) (.p (.sl 2 ((G.dotsOf l).map dR) false)):=⟨dOf_w l ex⟩
theorem vEqV (v w:List Int) (hv:v.length=8) (hw:w.length=8):vEqB [.int .u64 (v.getD 0 default),.int .u64 (v.getD 1 default),.int .u64 (v.getD 2 default),.int .u64 (v.getD 3 default),.int .u64 (v.getD 4 default),.int .u64 (v.getD 5 default),.int .u64 (v.getD 6 default),.int .u64 (v.getD 7 default)] [.int .u64 (w.getD 0 default),.int .u64 (w.getD 1 default),.int .u64 (w.getD 2 default),.int .u64 (w.getD 3 default),.int .u64 (w.getD 4 default),.int .u64 (w.getD 5 default),.int .u64 (w.getD 6 default),.int .u64 (w.getD 7 default)]=decide (v=w):=by
 rw [Bool.eq_iff_iff]
 match v,hv,w,hw with
 | [a0,a1,a2,a3,a4,a5,a6,a7],_,[b0,b1,b2,b3,b4,b5,b6,b7],_=>simp [vEqB,vEq]
def sameF (v w:List Int) (l m:List Ent):Bool:=decide (v=w)&&decide (l=m)
theorem same_w (v w:List Int) (l m:List Ent) (ex ey:Bool) (hv:v.length=8) (hw:w.length=8) (h:l.length≤1000000000):PCall Tryz.prog 83 [cV v l ex,cV w m ey] (.p (.b (sameF v w l m))):=by
 refine pcall_of Tryz.func83 rfl (fun w0 F S0 M0=>?_)
 unfold sameF
 have e:=vEqV v w hv hw
 cases hh:decide (v=w) with
 | true=>
  rw [hh] at e
  repeat' (first|refine jx4 ?_|refine jy0 ?_ ?_|exact spF|refine spQ fun hq hq'=>?_|refine spN fun hn=>?_|fail)
  exact rt1 rfl rfl finS_p rfl
 | false=>
  rw [hh] at e
  repeat' (first|refine jx4 ?_|refine jy0 ?_ ?_|exact spF|refine spQ fun hq hq'=>?_|refine spN fun hn=>?_|fail)
  exact rt1 rfl rfl finS_p rfl
theorem lop_ap_pair {C:Ctx} {o:Oper} {σ:St} {T e:TypeId} {x y:Operand} {sz by_ es be:Nat} {ke:TK} {l:List Dot} {z:List Value} {ey:Bool} {ob g n len:Nat} {a b:Int} (ho:o.op=.call ⟨.builtin .append,#[x,y],#[T,T]⟩) (hT:TI C.P T (.slice e) sz by_) (he:TI C.P e ke es be) (hz:TZ C.P e z) (hx:σ.look x=.o (.osl ob g es 0 len)) (hm:σ.mem ob=(n,some (.buf e es (l.map dR)))) (hn:n=g+1) (hlr:len=l.length)
  (hy:σ.look y=.p (.sl es [[.i a,.k .u64 b]] ey)) (hzl:z.length=es) (h63:l.length+1≤maxLen) (hby:(l.length+1) * be≤140737488355328) (hd:dOk C o.dst=true) :
  LOp C o σ ⟨.o (.osl ob n es 0 (l++[(a,b)]).length),[(ob,(n+1,some (.buf e es ((l++[(a,b)]).map dR))))]⟩ (fun q=>q == ob):=lop_ap_o1 (f:=dR) (v:=(a,b)) ho hT he hz hx hm hn hlr hy rfl hzl h63 hby hd
namespace J
theorem lopC {C:Ctx} {o:Oper} {σ:St} {e:Eff} {ro:Nat→Bool} (h:LOp C o σ e ro:=by
  first|(apply G.lop_bst2;(focus rfl);(focus exact inferInstance);(focus exact inferInstance);(focus exact inferInstance);(focus rfl);(focus rfl);(focus rfl))|(apply lop_bst4;(focus rfl);(focus exact inferInstance);(focus exact inferInstance);(focus exact inferInstance);(focus rfl);(focus rfl);(focus rfl))|(apply lop_ap_pair;(focus rfl);(focus exact inferInstance);(focus exact inferInstance);(focus exact inferInstance);(focus rfl);(focus rfl);(focus rfl);(focus rfl);(focus rfl);(focus rfl);(focus first|(simp only [maxLen,List.length_append,List.length_cons,List.length_nil,List.length_take,List.length_drop,List.length_map];omega)|omega);(focus first|(simp only [maxLen,List.length_append,List.length_cons,List.length_nil,List.length_take,List.length_drop,List.length_map];omega)|omega);(focus rfl))|exact lopV|fail):LOp C o σ e ro:=h
section steps
variable {C:Ctx} {ops:Array Oper} {o:Oper} {rest:List Oper} {K:St→Prop} {σ:St} {e:Eff} {ro:Nat→Bool} {W:List (Nat × Nat)} {i:Nat}
theorem rnC {d:Nat} (hg:Guard ops σ o true:=by first|exact gd_n rfl rfl|exact gd_t rfl rfl rfl rfl|exact gd_t rfl rfl rfl (by assumption)) (hd:o.dst=some d:=by rfl) (h:LOp C o σ e ro:=by exact lopC) (hk:RunN C ops rest K (e.app (some d) σ)):RunN C ops (o::rest) K σ:=rn_any hg hd h hk
theorem rkC {d:Nat} (hg:Guard ops σ o true:=by first|exact gd_n rfl rfl|exact gd_t rfl rfl rfl rfl|exact gd_t rfl rfl rfl (by assumption)) (hd':o.dst=some d:=by rfl) (hd:dOk C o.dst=true:=by rfl) (h:LOp C o σ e ro:=by exact lopC) (hro:∀ x,ro x=true→okObj ops W i x=true:=by first|exact fun _=>ro_none|exact ro_one rfl|exact ro_one (by kernel_rfl)|exact ro_kIn (by decide)) (hob:∀ p∈e.obj,(i,p.1)∈W:=by first|exact ob_none|exact ob_one (by decide)|decide) (hk:RunK C ops W (i+1) rest K (e.app (some d) σ)):RunK C ops W i (o::rest) K σ:=rk_wr hg hd' hd h hro hob hk
end steps
end J
open J
def QB (e:Ent):Prop := -9223372036854775808≤e.2.2.2∧e.2.2.2≤9223372036854775807
def liveF (l:List Ent):List Dot:=G.dotsOf (l.map dotE)
theorem live_w (v:List Int) (l:List Ent) (ex:Bool) (h:l.length≤1000000):PCall Tryz.prog 175 [cV v l ex] (.p (.sl 2 ((liveF l).map dR) false)):=by
 refine pcall_of Tryz.func175 rfl (fun w0 F S0 M0=>?_)
 repeat' (first|refine jx5 ?_|refine jy0 ?_ ?_|exact spF|refine spQ fun hq hq'=>?_|refine spN fun hn=>?_|fail)
 refine aws_says (says_nil (t:=3) (o:=901) (ty:=239) (es:=2) rfl rfl (by decide)) ?_
 refine aws_loopS [3,5,9,10,11,12,13,14,15,16,17,18] [901,5] (fun (x:Nat × List Dot × Option MO)=>[(9,.p (.i x.1)),(3,.o (.osl 901 x.1 2 0 x.2.1.length))]) (fun x=>[(901,(x.1+1,some (.buf 239 2 (x.2.1.map dR)))),(5,(x.1,x.2.2))])
  (fun x=>x.1≤l.length∧x.2.1=(l.take x.1).map dotE) (fun x=>l.length - x.1) (0,[],none) ⟨Nat.zero_le _,rfl⟩ (by exact knA) (by exact knA) ?_
 rintro ⟨i,m,c5⟩ β γ ⟨hi,hm⟩
 simp only at hi hm
 have hml:m.length=i:=by rw [hm,List.length_map,List.length_take];omega
 dsimp only
 by_cases hil:i < l.length
 ·have hd:decide ((i:Int) < (l.length:Int))=true:=decide_eq_true (by omega)
  as_aux_lemma=>
   repeat' (first|refine jx5 ?_|refine jy0 ?_ ?_|exact spF|refine spQ fun hq hq'=>?_|refine spN fun hn=>?_|fail)
   refine ⟨(i+1,m++[(_,_)],some (.box 217 (eL (l.getD (i:Int).toNat default)))),_,by dsimp only;omega,⟨by dsimp only;omega,?_⟩,.refl,by exact frA⟩
   dsimp only
   rw [hm,List.take_succ_eq_append_getElem hil,List.map_append,Int.toNat_natCast,List.getD_eq_getElem?_getD,List.getElem?_eq_getElem hil];rfl
 ·have hd:decide ((i:Int) < (l.length:Int))=false:=decide_eq_false (by omega)
  have hm':m=l.map dotE:=by rw [hm,List.take_of_length_le (by omega)]
  have hml':m.length≤1000000000:=by omega
  rw [show liveF l=G.dotsOf m by rw [hm'];rfl]
  repeat' (first|refine jx5 ?_|refine jy0 ?_ ?_|exact spF|refine spQ fun hq hq'=>?_|refine spN fun hn=>?_|fail)
  refine rn_says (says_frz (t:=19) (o:=901) rfl rfl rfl (by simp)) rfl ?_
  as_aux_lemma=>
   repeat' (first|refine jx5 ?_|refine jy0 ?_ ?_|exact spF|refine spQ fun hq hq'=>?_|refine spN fun hn=>?_|fail)
   exact rt1 rfl rfl finS_p rfl
instance {v:List Int} {l:List Ent} {ex:Bool}:PC Tryz.prog 175 [cV v l ex] (l.length≤1000000) (.p (.sl 2 ((liveF l).map dR) false)):=⟨live_w v l ex⟩
end Go.Proofs.YtpgppgehhclfoaaGreat.Ca
namespace Go.Proofs.YtpgppgehhclfoaaGreat.Ca
open Go Go.RowKit Go.Aw Go.Aw.Cart
set_option linter.unusedVariables false
set_option linter.unusedSimpArgs false
set_option maxRecDepth 8000
set_option maxHeartbeats 4000000
open J
def rowOk (v:List Int) (l:List Ent) (i:Nat):Bool:=entF (l.getD i default)&&hasF v (dotE (l.getD i default))&&(decide (i=0)||decide (ordE (l.getD (i - 1) default) (l.getD i default) < 0))
def okTo (v:List Int) (l:List Ent) (k:Nat):Nat→Bool
 | 0=>true
 | n+1=>rowOk v l k&&okTo v l (k+1) n
def rightF (v:List Int) (l:List Ent):Bool:=decide (l.length≤400)&&(okTo v l 0 l.length&&decide ((liveF l).length=l.length))
theorem right_w (v:List Int) (l:List Ent) (ex:Bool) (hv:v.length=8) (h:l.length≤1000000000):PCall Tryz.prog 142 [cV v l ex] (.p (.b (rightF v l))):=by
 refine pcall_of Tryz.func142 rfl (fun w0 F S0 M0=>?_)
 unfold rightF
 by_cases h4:l.length≤400
 ·have d0:decide (400 < (l.length:Int))=false:=decide_eq_false (by omega)
  rw [decide_eq_true h4,Bool.true_and]
  obtain ⟨A,hA⟩:∃ A,A=okTo v l 0 l.length:=⟨_,rfl⟩
  rw [← hA]
  repeat' (first|refine jx6 ?_|refine jy0 ?_ ?_|exact spF|refine spQ fun hq hq'=>?_|refine spN fun hn=>?_|fail)
  refine aws_loopS [2,3,4,12,13,14,15,16,17,18,19,20,21,22,23,24,25,26,27,28,29,30,31,32,33,34,35,36,37,38,39,40,41,42,43] [4] (fun (x:Nat × Option MO)=>[(12,.p (.i x.1))]) (fun x=>[(4,(x.1,x.2))]) (fun x=>x.1≤l.length∧A=okTo v l x.1 (l.length - x.1)) (fun x=>l.length - x.1) (0,none) ⟨Nat.zero_le _,hA⟩ (by exact knA) (by exact knA) ?_
  rintro ⟨i,c4⟩ β γ ⟨hi,hx⟩
  simp only at hi hx
  dsimp only
  by_cases hil:i < l.length
  ·have hlt:decide ((i:Int) < (l.length:Int))=true:=decide_eq_true (by omega)
   rw [show l.length - i=(l.length - (i+1))+1 by omega,okTo,rowOk] at hx
   have ei:(i:Int).toNat=i:=Int.toNat_natCast i
   have ep:((i:Int) - 1).toNat=i - 1:=by omega
   cases he:entF (l.getD (i:Int).toNat default) with
   | false=>
    have he':(!entF (l.getD (i:Int).toNat default))=true:=by rw [he];rfl
    rw [ei] at he
    rw [he,Bool.false_and,Bool.false_and,Bool.false_and] at hx
    rw [hx]
    as_aux_lemma=>
     repeat' (first|refine jx6 ?_|refine jy0 ?_ ?_|exact spF|refine spQ fun hq hq'=>?_|refine spN fun hn=>?_|fail)
     exact rt1 rfl rfl finS_p rfl
   | true=>
    have he':(!entF (l.getD (i:Int).toNat default))=false:=by rw [he];rfl
    rw [ei] at he
    cases hh:hasF v (dotE (l.getD (i:Int).toNat default)) with
    | false=>
     have hh':(!hasF v (dotE (l.getD (i:Int).toNat default)))=true:=by rw [hh];rfl
     rw [ei] at hh
     rw [hh,Bool.and_false,Bool.false_and,Bool.false_and] at hx
     rw [hx]
     as_aux_lemma=>
      repeat' (first|refine jx6 ?_|refine jy0 ?_ ?_|exact spF|refine spQ fun hq hq'=>?_|refine spN fun hn=>?_|fail)
      exact rt1 rfl rfl finS_p rfl
    | true=>
     have hh':(!hasF v (dotE (l.getD (i:Int).toNat default)))=false:=by rw [hh];rfl
     rw [ei] at hh
     rw [he,hh,Bool.true_and,Bool.true_and] at hx
     by_cases h0:i=0
     ·have d3:decide (0 < (i:Int))=false:=decide_eq_false (by omega)
      rw [decide_eq_true h0,Bool.true_or,Bool.true_and] at hx
      as_aux_lemma=>
       repeat' (first|refine jx6 ?_|refine jy0 ?_ ?_|exact spF|refine spQ fun hq hq'=>?_|refine spN fun hn=>?_|fail)
       exact ⟨(i+1,some (.box 217 (eL (l.getD (i:Int).toNat default)))),_,by dsimp only;omega,⟨by dsimp only;omega,by dsimp only;exact hx⟩,.refl,by exact frA⟩
     ·have d3:decide (0 < (i:Int))=true:=decide_eq_true (by omega)
      rw [decide_eq_false h0,Bool.false_or] at hx
      by_cases ho:ordE (l.getD ((i:Int) - 1).toNat default) (l.getD (i:Int).toNat default) < 0
      ·have d4:decide (0≤ordE (l.getD ((i:Int) - 1).toNat default) (l.getD (i:Int).toNat default))=false:=decide_eq_false (by omega)
       rw [ei,ep] at ho
       rw [decide_eq_true ho,Bool.true_and] at hx
       as_aux_lemma=>
        repeat' (first|refine jx6 ?_|refine jy0 ?_ ?_|exact spF|refine spQ fun hq hq'=>?_|refine spN fun hn=>?_|fail)
        exact ⟨(i+1,some (.box 217 (eL (l.getD (i:Int).toNat default)))),_,by dsimp only;omega,⟨by dsimp only;omega,by dsimp only;exact hx⟩,.refl,by exact frA⟩
      ·have d4:decide (0≤ordE (l.getD ((i:Int) - 1).toNat default) (l.getD (i:Int).toNat default))=true:=decide_eq_true (by omega)
       rw [ei,ep] at ho
       rw [decide_eq_false ho,Bool.false_and] at hx
       rw [hx]
       as_aux_lemma=>
        repeat' (first|refine jx6 ?_|refine jy0 ?_ ?_|exact spF|refine spQ fun hq hq'=>?_|refine spN fun hn=>?_|fail)
        exact rt1 rfl rfl finS_p rfl
  ·have hlt:decide ((i:Int) < (l.length:Int))=false:=decide_eq_false (by omega)
   rw [show l.length - i=0 by omega,okTo] at hx
   rw [hx]
   as_aux_lemma=>
    repeat' (first|refine jx6 ?_|refine jy0 ?_ ?_|exact spF|refine spQ fun hq hq'=>?_|refine spN fun hn=>?_|fail)
    refine rt1 rfl rfl finS_p (rb ?_)
    rw [Bool.true_and]
    exact decide_eq_decide.2 (by omega)
 ·have d0:decide (400 < (l.length:Int))=true:=decide_eq_true (by omega)
  rw [decide_eq_false h4,Bool.false_and]
  as_aux_lemma=>
   repeat' (first|refine jx6 ?_|refine jy0 ?_ ?_|exact spF|refine spQ fun hq hq'=>?_|refine spN fun hn=>?_|fail)
   exact rt1 rfl rfl finS_p rfl
end Go.Proofs.YtpgppgehhclfoaaGreat.Ca
namespace Go.Proofs.YtpgppgehhclfoaaGreat.Ca
open Go Go.RowKit Go.Aw Go.Aw.Cart Go.Aw.Ord Go.Sort
set_option linter.unusedVariables false
set_option linter.unusedSimpArgs false
theorem ltE_ir (a:Ent):¬ ltE a a:=by unfold ltE;omega
theorem ltE_tr (a b c:Ent):ltE a b→ltE b c→ltE a c:=by unfold ltE;omega
theorem ltE_as (a b:Ent):ltE a b→¬ ltE b a:=by unfold ltE;omega
theorem ltE_nt (a b c:Ent):¬ ltE a b→¬ ltE b c→¬ ltE a c:=by unfold ltE;omega
theorem ltE_tot (a b:Ent) (h:¬ ltE a b) (k:¬ ltE b a):a=b:=totE a b (by rw [ltE_of];exact decide_eq_false h) (by rw [ltE_of];exact decide_eq_false k)
theorem ltD_ir (a:Dot):¬ ltD a a:=by unfold ltD;omega
theorem ltD_tr (a b c:Dot):ltD a b→ltD b c→ltD a c:=by unfold ltD;omega
theorem ltD_as (a b:Dot):ltD a b→¬ ltD b a:=by unfold ltD;omega
theorem ltD_nt (a b c:Dot):¬ ltD a b→¬ ltD b c→¬ ltD a c:=by unfold ltD;omega
theorem ltD_tot (a b:Dot) (h:¬ ltD a b) (k:¬ ltD b a):a=b:=totD a b (by rw [ltD_of];exact decide_eq_false h) (by rw [ltD_of];exact decide_eq_false k)
theorem sortE_perm (l:List Ent):(sortE l).Perm l:=List.mergeSort_perm ..
theorem sortD_perm (l:List Dot):(sortD l).Perm l:=List.mergeSort_perm ..
theorem sortE_up (l:List Ent):upI ltE (sortE l):=by
 have h:=List.pairwise_mergeSort (le:=fun x y=>!(ltOf ordE) y x) (fun a b c h k=>?_) (fun a b=>?_) l
 ·refine List.Pairwise.imp (fun {a b} h=>?_) h
  simpa [ltE_of] using h
 ·simp only [ltE_of,Bool.not_eq_true',decide_eq_false_iff_not] at h k ⊢
  exact ltE_nt _ _ _ k h
 ·simp only [ltE_of,Bool.or_eq_true,Bool.not_eq_true',decide_eq_false_iff_not]
  by_cases k:ltE b a
  ·exact .inr (ltE_as _ _ k)
  ·exact .inl k
theorem sortD_up (l:List Dot):upI ltD (sortD l):=by
 have h:=List.pairwise_mergeSort (le:=fun x y=>!(ltOf cmpD) y x) (fun a b c h k=>?_) (fun a b=>?_) l
 ·refine List.Pairwise.imp (fun {a b} h=>?_) h
  simpa [ltD_of] using h
 ·simp only [ltD_of,Bool.not_eq_true',decide_eq_false_iff_not] at h k ⊢
  exact ltD_nt _ _ _ k h
 ·simp only [ltD_of,Bool.or_eq_true,Bool.not_eq_true',decide_eq_false_iff_not]
  by_cases k:ltD b a
  ·exact .inr (ltD_as _ _ k)
  ·exact .inl k
theorem sortE_mem {l:List Ent} {e:Ent}:e∈sortE l↔e∈l:=(sortE_perm l).mem_iff
def setF (l:List Dot):List Dot:=comp (sortD (l.filter dotF))
theorem setF_up (l:List Dot):(setF l).Pairwise ltD:=comp_up (fun x y h=>by
 by_cases k:ltD x y
 ·exact .inr k
 ·exact .inl (ltD_tot _ _ k h)) ltD_tr (sortD_up _)
theorem setF_len (l:List Dot):(setF l).length≤l.length:=Nat.le_trans (comp_len _) (by rw [sortD_len];exact List.length_filter_le _ _)
theorem dotsOf_is (l:List Dot):G.dotsOf l=(setF l).take 2000:=rfl
theorem setF_full {l:List Dot} (hd:∀ d∈l,dotF d=true):(setF l).length=l.length↔l.Nodup:=by
 have e:l.filter dotF=l:=List.filter_eq_self.2 hd
 rw [setF,e]
 constructor
 ·intro h
  have h1:=comp_sub.eq_of_length (l₁:=comp (sortD l)) (by rw [h,sortD_len])
  have h2:=setF_up l
  rw [setF,e,h1] at h2
  refine (sortD_perm l).nodup_iff.1 (h2.imp fun {a b} k q=>?_)
  subst q;exact ltD_ir _ k
 ·intro h
  rw [comp_id ((sortD_perm l).nodup_iff.2 h),sortD_len]
/-! which carts may be -/
theorem okTo_iff {v:List Int} {l:List Ent}:∀ (n k:Nat),okTo v l k n=true↔∀ i,k≤i→i < k+n→rowOk v l i=true
 | 0,k=>⟨fun _ i h1 h2=>by omega,fun _=>rfl⟩
 | n+1,k=>by
  rw [okTo,Bool.and_eq_true,okTo_iff n (k+1)]
  refine ⟨fun h i h1 h2=>?_,fun h=>⟨h k (by omega) (by omega),fun i h1 h2=>h i (by omega) (by omega)⟩⟩
  by_cases e:i=k
  ·rw [e];exact h.1
  ·exact h.2 i (by omega) (by omega)
theorem has_dot {v:List Int} {d:Dot} (h:hasF v d=true):dotF d=true:=by
 unfold hasF at h;simp only [Bool.and_eq_true] at h;exact h.1
theorem row_ent {v:List Int} {l:List Ent} {i:Nat} (h:rowOk v l i=true):entF (l.getD i default)=true∧hasF v (dotE (l.getD i default))=true∧(0 < i→ltE (l.getD (i - 1) default) (l.getD i default)):=by
 unfold rowOk at h
 simp only [Bool.and_eq_true,Bool.or_eq_true,decide_eq_true_eq] at h
 exact ⟨h.1.1,h.1.2,fun k=>ordE_lt.1 (h.2.resolve_left (by omega))⟩
theorem getD_mem {α:Type} [Inhabited α] {l:List α} {x:α} (h:x∈l):∃ i,i < l.length∧l.getD i default=x:=by
 obtain ⟨i,hi,e⟩:=List.getElem_of_mem h
 exact ⟨i,hi,by rw [List.getD_eq_getElem?_getD,List.getElem?_eq_getElem hi];exact e⟩
theorem live_set (l:List Ent) (h:l.length≤2000):liveF l=setF (l.map dotE):=by
 rw [liveF,dotsOf_is,List.take_of_length_le]
 exact Nat.le_trans (setF_len _) (by rw [List.length_map];exact h)
theorem rightF_iff {v:List Int} {l:List Ent}:rightF v l=true↔l.length≤400∧(∀ i,i < l.length→rowOk v l i=true)∧(l.map dotE).Nodup:=by
 unfold rightF
 simp only [Bool.and_eq_true,decide_eq_true_eq,okTo_iff]
 refine and_congr_right fun h4=>?_
 constructor
 ·rintro ⟨h1,h2⟩
  have h1':∀ i,i < l.length→rowOk v l i=true:=fun i hi=>h1 i (Nat.zero_le _) (by omega)
  refine ⟨h1',(setF_full fun d hd=>?_).1 (by rw [← live_set l (by omega),h2,List.length_map])⟩
  obtain ⟨e,he,rfl⟩:=List.mem_map.1 hd
  obtain ⟨i,hi,rfl⟩:=getD_mem he
  exact has_dot (row_ent (h1' i hi)).2.1
 ·rintro ⟨h1,h2⟩
  refine ⟨fun i _ hi=>h1 i (by omega),?_⟩
  rw [live_set l (by omega),(setF_full fun d hd=>?_).2 h2,List.length_map]
  obtain ⟨e,he,rfl⟩:=List.mem_map.1 hd
  obtain ⟨i,hi,rfl⟩:=getD_mem he
  exact has_dot (row_ent (h1 i hi)).2.1
/-! values -/
end Go.Proofs.YtpgppgehhclfoaaGreat.Ca
namespace Go.Proofs.YtpgppgehhclfoaaGreat.Ca
open Go Go.RowKit Go.Aw Go.Aw.Cart Go.Aw.Ord Go.Sort
set_option linter.unusedVariables false
set_option linter.unusedSimpArgs false
theorem getD_at {α:Type} [Inhabited α] {l:List α} {i:Nat} (h:i < l.length):l.getD i default=l[i]:=by
 rw [List.getD_eq_getElem?_getD,List.getElem?_eq_getElem h];rfl
theorem adj_up {l:List Ent} (h:∀ i,0 < i→i < l.length→ltE (l.getD (i - 1) default) (l.getD i default)):l.Pairwise ltE:=by
 have key:∀ j,j < l.length→∀ i,i < j→ltE (l.getD i default) (l.getD j default):=by
  intro j
  induction j with
  | zero=>intro _ i hi;exact absurd hi (Nat.not_lt_zero _)
  | succ j ih=>
   intro hj i hi
   have h1:=h (j+1) (Nat.succ_pos _) hj
   rw [Nat.add_sub_cancel] at h1
   by_cases e:i=j
   ·rw [e];exact h1
   ·exact ltE_tr _ _ _ (ih (by omega) i (by omega)) h1
 refine List.pairwise_iff_getElem.2 fun i j hi hj hij=>?_
 have:=key j hj i hij
 rwa [getD_at hi,getD_at hj] at this
theorem up_adj {l:List Ent} (h:l.Pairwise ltE) {i:Nat} (h0:0 < i) (hi:i < l.length):ltE (l.getD (i - 1) default) (l.getD i default):=by
 have:=List.pairwise_iff_getElem.1 h (i - 1) i (by omega) hi (by omega)
 rwa [getD_at hi,getD_at (show i - 1 < l.length by omega)]
theorem nodup_map {α β:Type} {f:α→β}:∀ {l:List α},l.Nodup→((l.map f).Nodup↔∀ x∈l,∀ y∈l,f x=f y→x=y)
 | [],_=>by simp
 | a::l,h=>by
  obtain ⟨h1,h2⟩:=List.nodup_cons.1 h
  rw [List.map_cons,List.nodup_cons,nodup_map h2]
  constructor
  ·rintro ⟨k1,k2⟩ x hx y hy e
   rcases List.mem_cons.1 hx with q|q<;>rcases List.mem_cons.1 hy with r|r
   ·rw [q,r]
   ·exact absurd (List.mem_map.2 ⟨y,r,by rw [← e,q]⟩) k1
   ·exact absurd (List.mem_map.2 ⟨x,q,by rw [e,r]⟩) k1
   ·exact k2 x q y r e
  ·intro k
   refine ⟨fun q=>?_,fun x hx y hy=>k x (List.mem_cons_of_mem _ hx) y (List.mem_cons_of_mem _ hy)⟩
   obtain ⟨y,hy,e⟩:=List.mem_map.1 q
   rw [k y (List.mem_cons_of_mem _ hy) a List.mem_cons_self e] at hy
   exact h1 hy
theorem up_nodup {l:List Ent} (h:l.Pairwise ltE):l.Nodup:=h.imp fun {a b} k e=>by subst e;exact ltE_ir _ k
structure Ok (v:List Int) (l:List Ent):Prop where
 few:l.length≤400
 up:l.Pairwise ltE
 ent:∀ e∈l,entF e=true
 has:∀ e∈l,hasF v (dotE e)=true
 one:∀ e∈l,∀ f∈l,dotE e=dotE f→e=f
theorem ok_iff {v:List Int} {l:List Ent}:rightF v l=true↔Ok v l:=by
 rw [rightF_iff]
 constructor
 ·rintro ⟨h1,h2,h3⟩
  have hu:l.Pairwise ltE:=adj_up fun i h0 hi=>(row_ent (h2 i hi)).2.2 h0
  refine ⟨h1,hu,fun e he=>?_,fun e he=>?_,(nodup_map (up_nodup hu)).1 h3⟩
  ·obtain ⟨i,hi,rfl⟩:=getD_mem he;exact (row_ent (h2 i hi)).1
  ·obtain ⟨i,hi,rfl⟩:=getD_mem he;exact (row_ent (h2 i hi)).2.1
 ·intro h
  refine ⟨h.few,fun i hi=>?_,(nodup_map (up_nodup h.up)).2 h.one⟩
  have hm:l.getD i default∈l:=by rw [getD_at hi];exact List.getElem_mem _
  unfold rowOk
  simp only [Bool.and_eq_true,Bool.or_eq_true,decide_eq_true_eq]
  refine ⟨⟨h.ent _ hm,h.has _ hm⟩,?_⟩
  by_cases h0:i=0
  ·exact .inl h0
  ·exact .inr (ordE_lt.2 (up_adj h.up (by omega) hi))
theorem Ok.upI {v:List Int} {l:List Ent} (h:Ok v l):upI ltE l:=h.up.imp fun {a b} k=>ltE_as _ _ k
theorem sortE_sup {l:List Ent} (h:l.Nodup):(sortE l).Pairwise ltE:=by
 have h1:(sortE l).Pairwise fun a b=>a≠b:=(sortE_perm l).nodup_iff.2 h
 refine List.Pairwise.imp (fun {a b} (k:¬ ltE b a∧a≠b)=>?_) ((sortE_up l).and h1)
 by_cases q:ltE a b
 ·exact q
 ·exact absurd (ltE_tot _ _ q k.1) k.2
/-! joins -/
abbrev Crt:=List Int × List Ent
def staysF (a b:Crt) (both:Bool):List Ent:=a.2.filter fun e=>(both&&decide (e∈b.2))||!hasF b.1 (dotE e)
def clashF (a b:Crt):Bool:=a.2.any fun e=>b.2.any fun f=>decide (e≠f)&&decide (dotE e=dotE f)
def maxV (a b:List Int):List Int:=List.zipWith (fun x y=>if x < y then y else x) a b
def zeroV:List Int:=[0,0,0,0,0,0,0,0]
def bothF (a b:Crt):List Ent:=staysF a b true++staysF b a false
def twoF (a b:Crt):Crt × Int:=
 if rightF a.1 a.2=false∨rightF b.1 b.2=false then ((zeroV,[]),3) else
 if clashF a b=true then ((zeroV,[]),14) else
 if 400 < (bothF a b).length then ((zeroV,[]),5) else
 ((maxV a.1 b.1,sortE (bothF a b)),0)
theorem both_mem {a b:Crt} {e:Ent}:e∈bothF a b↔(e∈a.2∧(e∈b.2∨hasF b.1 (dotE e)=false))∨(e∈b.2∧hasF a.1 (dotE e)=false):=by
 unfold bothF staysF
 simp [List.mem_append,List.mem_filter]
theorem clash_of {a b:Crt} (h:∀ e∈a.2,∀ f∈b.2,dotE e=dotE f→e=f):clashF a b=false:=by
 unfold clashF
 rw [List.any_eq_false]
 intro e he
 rw [Bool.not_eq_true,List.any_eq_false]
 intro f hf
 simp only [Bool.not_eq_true,Bool.and_eq_false_iff,decide_eq_false_iff_not]
 by_cases k:dotE e=dotE f
 ·exact .inl fun q=>q (h e he f hf k)
 ·exact .inr k
theorem maxV_len {a b:List Int} (ha:a.length=8) (hb:b.length=8):(maxV a b).length=8:=by simp [maxV,ha,hb]
theorem maxV_get {a b:List Int} (ha:a.length=8) (hb:b.length=8) {i:Nat} (hi:i < 8):(maxV a b).getD i default=if a.getD i default < b.getD i default then b.getD i default else a.getD i default:=by
 rw [getD_at (by rw [maxV_len ha hb];exact hi),getD_at (by omega),getD_at (by omega)]
 simp [maxV]
theorem getF_max {a b:List Int} (ha:a.length=8) (hb:b.length=8) (n:Int):getF (maxV a b) n=if getF a n < getF b n then getF b n else getF a n:=by
 unfold getF
 by_cases h:1≤n∧n≤8
 ·rw [if_pos h,if_pos h,if_pos h,maxV_get ha hb (by omega)]
 ·rw [if_neg h,if_neg h,if_neg h];rfl
theorem has_max {a b:List Int} (ha:a.length=8) (hb:b.length=8) (d:Dot):hasF (maxV a b) d=(hasF a d||hasF b d):=by
 unfold hasF
 rw [getF_max ha hb]
 cases dotF d with
 | false=>rfl
 | true=>
  simp only [Bool.true_and]
  rw [Bool.eq_iff_iff,Bool.or_eq_true,decide_eq_true_eq,decide_eq_true_eq,decide_eq_true_eq]
  split<;>omega
structure Two (a b:Crt):Prop where
 la:a.1.length=8
 lb:b.1.length=8
 oa:Ok a.1 a.2
 ob:Ok b.1 b.2
 nc:∀ e∈a.2,∀ f∈b.2,dotE e=dotE f→e=f
 few:(bothF a b).length≤400
theorem bothF_nodup {a b:Crt} (oa:Ok a.1 a.2) (ob:Ok b.1 b.2):(bothF a b).Nodup:=by
 unfold bothF
 refine List.nodup_append.2 ⟨(up_nodup oa.up).sublist List.filter_sublist,(up_nodup ob.up).sublist List.filter_sublist,fun x hx y hy e=>?_⟩
 subst e
 unfold staysF at hx hy
 have h1:=(List.mem_filter.1 hx).1
 have h2:=(List.mem_filter.1 hy).2
 rw [Bool.false_and,Bool.false_or,oa.has x h1] at h2
 exact absurd h2 (by simp)
theorem Two.is {a b:Crt} (h:Two a b):twoF a b=((maxV a.1 b.1,sortE (bothF a b)),0):=by
 unfold twoF
 rw [ok_iff.2 h.oa,ok_iff.2 h.ob,if_neg (by simp),if_neg (by rw [clash_of h.nc];simp),if_neg (by have:=h.few;omega)]
theorem Two.mem {a b:Crt} (h:Two a b) {e:Ent}:e∈(twoF a b).1.2↔(e∈a.2∧(e∈b.2∨hasF b.1 (dotE e)=false))∨(e∈b.2∧hasF a.1 (dotE e)=false):=by
 rw [h.is,sortE_mem,both_mem]
theorem Two.vec {a b:Crt} (h:Two a b):(twoF a b).1.1=maxV a.1 b.1:=by rw [h.is]
theorem Two.len {a b:Crt} (h:Two a b):(twoF a b).1.1.length=8:=by rw [h.vec];exact maxV_len h.la h.lb
theorem Two.sub {a b:Crt} (h:Two a b) {e:Ent} (he:e∈(twoF a b).1.2):e∈a.2∨e∈b.2:=by
 rcases h.mem.1 he with k|k
 ·exact .inl k.1
 ·exact .inr k.1
theorem Two.ok {a b:Crt} (h:Two a b):Ok (twoF a b).1.1 (twoF a b).1.2:=by
 have hs:=@Two.sub a b h
 have hv:=h.vec
 refine ⟨?_,?_,fun e he=>?_,fun e he=>?_,fun e he f hf hd=>?_⟩
 ·rw [h.is];show (sortE _).length≤400;rw [sortE_len];exact h.few
 ·rw [h.is];exact sortE_sup (bothF_nodup h.oa h.ob)
 ·exact (hs he).elim (h.oa.ent e) (h.ob.ent e)
 ·rw [hv,has_max h.la h.lb,Bool.or_eq_true]
  exact (hs he).elim (fun k=>.inl (h.oa.has e k)) (fun k=>.inr (h.ob.has e k))
 ·rcases hs he with k|k<;>rcases hs hf with q|q
  ·exact h.oa.one e k f q hd
  ·exact h.nc e k f q hd
  ·exact (h.nc f q e k hd.symm).symm
  ·exact h.ob.one e k f q hd
end Go.Proofs.YtpgppgehhclfoaaGreat.Ca
namespace Go.Proofs.YtpgppgehhclfoaaGreat.Ca
open Go Go.RowKit Go.Aw Go.Aw.Cart Go.Aw.Ord Go.Sort
set_option linter.unusedVariables false
set_option linter.unusedSimpArgs false
/-! the items, and their lines -/
/-! each entry counts for one item -/
/-! the order does not matter -/
end Go.Proofs.YtpgppgehhclfoaaGreat.Ca
namespace Go.Proofs.YtpgppgehhclfoaaGreat.Ca
open Go Go.RowKit Go.Aw Go.Aw.Cart Go.Aw.Ord Go.Sort
set_option linter.unusedVariables false
set_option linter.unusedSimpArgs false
set_option maxRecDepth 8000
set_option maxHeartbeats 4000000
def aV:List Int:=[2,3,0,0,0,0,0,0]
theorem great_w (v:List Int) (l:List Ent) (ex:Bool):PCall Tryz.prog 126 [cV v l ex] (.p (.b (decide (60 < (l.length:Int))))):=by
 refine pcall_of Tryz.func126 rfl (fun w0 F S0 M0=>?_)
 repeat' (first|refine jx4 ?_|refine jy0 ?_ ?_|exact spF|refine spQ fun hq hq'=>?_|refine spN fun hn=>?_|fail)
 exact rt1 rfl rfl finS_p rfl
instance {v:List Int} {l:List Ent} {ex:Bool}:PC Tryz.prog 126 [cV v l ex] True (.p (.b (decide (60 < (l.length:Int))))):=⟨fun _=>great_w v l ex⟩
theorem lop_ap_ent {C:Ctx} {o:Oper} {σ:St} {T e:TypeId} {x y:Operand} {sz by_ es be:Nat} {ke:TK} {l:List Ent} {z:List Value} {ey:Bool} {ob g n len:Nat} {a b c d:Int} (ho:o.op=.call ⟨.builtin .append,#[x,y],#[T,T]⟩) (hT:TI C.P T (.slice e) sz by_) (he:TI C.P e ke es be) (hz:TZ C.P e z) (hx:σ.look x=.o (.osl ob g es 0 len)) (hm:σ.mem ob=(n,some (.buf e es (l.map eR)))) (hn:n=g+1) (hlr:len=l.length)
  (hy:σ.look y=.p (.sl es [[.i a,.i b,.k .u64 c,.i d]] ey)) (hzl:z.length=es) (h63:l.length+1≤maxLen) (hby:(l.length+1) * be≤140737488355328) (hd:dOk C o.dst=true) :
  LOp C o σ ⟨.o (.osl ob n es 0 (l++[(a,b,c,d)]).length),[(ob,(n+1,some (.buf e es ((l++[(a,b,c,d)]).map eR))))]⟩ (fun q=>q == ob):=lop_ap_o1 (f:=eR) (v:=(a,b,c,d)) ho hT he hz hx hm hn hlr hy rfl hzl h63 hby hd
namespace A
theorem lop_bst4x3 {C:Ctx} {o:Oper} {σ:St} {T e:TypeId} {x0 x1 x2:Operand} {sz by_ es be:Nat} {ke:TK} {z:List Value} {p0 p1 p2 p3 q0 q1 q2 q3 r0 r1 r2 r3:PVal} (ho:o.op=.buildSlice T 3 #[(0,x0),(1,x1),(2,x2)]) (hT:TI C.P T (.slice e) sz by_) (he:TI C.P e ke es be) (hz:TZ C.P e z) (h0:σ.look x0=.a [.p p0,.p p1,.p p2,.p p3]) (h1:σ.look x1=.a [.p q0,.p q1,.p q2,.p q3]) (h2:σ.look x2=.a [.p r0,.p r1,.p r2,.p r3]) (hes:es=4) (hd:dOk C o.dst=true) :
  LOp C o σ ⟨.p (.sl es [[p0,p1,p2,p3],[q0,q1,q2,q3],[r0,r1,r2,r3]] true),[]⟩ (fun _=>false):=by
 subst hes
 exact lop_buildSlice (ps:=[(0,[p0,p1,p2,p3]),(1,[q0,q1,q2,q3]),(2,[r0,r1,r2,r3])]) ho (.cons ⟨rfl,by simp,_,h0,by simp [SV.cells]⟩ (.cons ⟨rfl,by simp,_,h1,by simp [SV.cells]⟩ (.cons ⟨rfl,by simp,_,h2,by simp [SV.cells]⟩ .nil))) rfl (by omega) (by omega) hd
theorem lopC {C:Ctx} {o:Oper} {σ:St} {e:Eff} {ro:Nat→Bool} (h:LOp C o σ e ro:=by
  first|(apply lop_bst4x3;(focus rfl);(focus exact inferInstance);(focus exact inferInstance);(focus exact inferInstance);(focus rfl);(focus rfl);(focus rfl);(focus rfl);(focus rfl))|exact lopV|fail):LOp C o σ e ro:=h
section steps
variable {C:Ctx} {ops:Array Oper} {o:Oper} {rest:List Oper} {K:St→Prop} {σ:St} {e:Eff} {ro:Nat→Bool} {W:List (Nat × Nat)} {i:Nat}
theorem rnC {d:Nat} (hg:Guard ops σ o true:=by first|exact gd_n rfl rfl|exact gd_t rfl rfl rfl rfl|exact gd_t rfl rfl rfl (by assumption)) (hd:o.dst=some d:=by rfl) (h:LOp C o σ e ro:=by exact lopC) (hk:RunN C ops rest K (e.app (some d) σ)):RunN C ops (o::rest) K σ:=rn_any hg hd h hk
theorem rkC {d:Nat} (hg:Guard ops σ o true:=by first|exact gd_n rfl rfl|exact gd_t rfl rfl rfl rfl|exact gd_t rfl rfl rfl (by assumption)) (hd':o.dst=some d:=by rfl) (hd:dOk C o.dst=true:=by rfl) (h:LOp C o σ e ro:=by exact lopC) (hro:∀ x,ro x=true→okObj ops W i x=true:=by first|exact fun _=>ro_none|exact ro_one rfl|exact ro_one (by kernel_rfl)|exact ro_kIn (by decide)) (hob:∀ p∈e.obj,(i,p.1)∈W:=by first|exact ob_none|exact ob_one (by decide)|decide) (hk:RunK C ops W (i+1) rest K (e.app (some d) σ)):RunK C ops W i (o::rest) K σ:=rk_wr hg hd' hd h hro hob hk
end steps
end A
open A
end Go.Proofs.YtpgppgehhclfoaaGreat.Ca
namespace Go.Proofs.YtpgppgehhclfoaaGreat.Ca
open Go Go.RowKit Go.Aw Go.Aw.Cart
set_option linter.unusedVariables false
set_option linter.unusedSimpArgs false
theorem i64_of {n:Int} (h:IntKind.i64.min≤n∧n≤IntKind.i64.max) : -9223372036854775808≤n∧n≤9223372036854775807:=by
 simp only [IntKind.min,IntKind.max,IntKind.signed,IntKind.bits] at h
 simp at h;omega
theorem u64_of {n:Int} (h:IntKind.u64.min≤n∧n≤IntKind.u64.max):0≤n∧n < 18446744073709551616:=by
 simp only [IntKind.min,IntKind.max,IntKind.signed,IntKind.bits] at h
 simp at h;omega
theorem rd_int:Reads Tryz.prog 3 Int (fun n=>[PVal.k .i64 n]) (fun n => -9223372036854775808≤n∧n≤9223372036854775807):=(reads_int inferInstance).imp' id (fun _ _=>rfl) (fun _ h=>i64_of h)
theorem rd_u64:Reads Tryz.prog 79 Int (fun n=>[PVal.k .u64 n]) (fun n=>0≤n∧n < 18446744073709551616):=(reads_int inferInstance).imp' id (fun _ _=>rfl) (fun _ h=>u64_of h)
def vRow (v:List Int):List PVal:=v.map fun n=>PVal.k .u64 n
theorem rd_vec:Reads Tryz.prog 141 (List Int) vRow (fun v=>v.length=8∧∀ n∈v,0≤n∧n < 18446744073709551616):=
 (reads_array (inferInstance:TI Tryz.prog 141 _ _ _) (inferInstance:TI Tryz.prog 79 _ _ _) rfl rd_u64).imp' id (fun l h=>by
  clear h
  unfold vRow
  show List.map _ l=_
  induction l with
  | nil=>rfl
  | cons b l ih=>simp [ih]) (fun l h=>h)
def EB (e:Ent):Prop:=(-9223372036854775808≤e.1∧e.1≤9223372036854775807)∧(-9223372036854775808≤e.2.1∧e.2.1≤9223372036854775807)∧(0≤e.2.2.1∧e.2.2.1 < 18446744073709551616)∧(-9223372036854775808≤e.2.2.2∧e.2.2.2≤9223372036854775807)
theorem rd_ent:Reads Tryz.prog 217 Ent (fun e=>eR e) EB:=
 (reads_struct (inferInstance:TI Tryz.prog 217 _ _ _)
  (readsFs_cons (inferInstance:TI Tryz.prog 3 _ _ _) rd_int (readsFs_cons (inferInstance:TI Tryz.prog 3 _ _ _) rd_int (readsFs_cons (inferInstance:TI Tryz.prog 79 _ _ _) rd_u64 (readsFs_cons (inferInstance:TI Tryz.prog 3 _ _ _) rd_int (readsFs_nil rfl)))))).imp
  (fun x=>(x.1,x.2.1,x.2.2.1,x.2.2.2.1)) (fun x=>rfl) (fun x h=>⟨h.1,h.2.1,h.2.2.1,h.2.2.2.1⟩)
theorem rd_ents:Reads Tryz.prog 142 (List Ent) (fun l=>[.sl 4 (l.map fun e=>eR e) false]) (fun l=>l.length≤maxLen∧∀ e∈l,EB e):=
 reads_slice inferInstance inferInstance (by decide) rd_ent
structure CIn (x:Crt):Prop where
 v8:x.1.length=8
 vb:∀ n∈x.1,0≤n∧n < 18446744073709551616
 len:x.2.length≤maxLen
 eb:∀ e∈x.2,EB e
def cRow (x:Crt):List PVal:=vRow x.1++[.sl 4 (x.2.map fun e=>eR e) false]
theorem rd_cart:Reads Tryz.prog 144 Crt cRow CIn:=
 (reads_struct (inferInstance:TI Tryz.prog 144 _ _ _)
  (readsFs_cons (inferInstance:TI Tryz.prog 141 _ _ _) rd_vec (readsFs_cons (inferInstance:TI Tryz.prog 142 _ _ _) rd_ents (readsFs_nil rfl)))).imp
  (fun x=>(x.1,x.2.1)) (fun x=>by simp [cRow]) (fun x h=>⟨h.1.1,h.1.2,h.2.1.1,h.2.1.2⟩)
theorem CIn.qb {x:Crt} (h:CIn x):∀ e∈x.2,QB e:=fun e he=>(h.eb e he).2.2.2
end Go.Proofs.YtpgppgehhclfoaaGreat.Ca
namespace Go.Proofs.YtpgppgehhclfoaaGreat.Wi
open Go Go.RowKit Go.Aw Go.Aw.Cart Go.Proofs.YtpgppgehhclfoaaGreat.Ca
set_option linter.unusedVariables false
set_option linter.unusedSimpArgs false
structure Par {α:Type} (P:RS→α × RS):Prop where
 bad:∀ r,r.2≠0→(P r).2=r
 ext:∀ l y rest q,P (l,0)=(y,(rest,0))→P (l++q,0)=(y,(rest++q,0))
 suf:∀ r,(P r).2.1 <:+ r.1
theorem Par.byte {α:Type} {P:RS→α × RS} (h:Par P) {r:RS} (hb:∀ b∈r.1,b < 256):∀ b∈(P r).2.1,b < 256:=fun b k=>hb b ((h.suf r).subset k)
theorem Par.len {α:Type} {P:RS→α × RS} (h:Par P) (r:RS):(P r).2.1.length≤r.1.length:=(h.suf r).length_le
def bindS {α β:Type} (P:RS→α × RS) (Q:α→RS→β × RS) (r:RS):β × RS:=Q (P r).1 (P r).2
def pureS {α:Type} (a:α) (r:RS):α × RS:=(a,r)
def mustU (b:Bool) (r:RS):Unit × RS:=((),mustS b r)
def okS {α:Type} (a z:α) (r:RS):α × RS:=(if r.2=0 then a else z,r)
theorem par_bind {α β:Type} {P:RS→α × RS} {Q:α→RS→β × RS} (hP:Par P) (hQ:∀ a,Par (Q a)):Par (bindS P Q) where
 bad:=fun r h=>by
  have h1:=hP.bad r h
  show (Q (P r).1 (P r).2).2=r
  rw [h1]
  exact (hQ _).bad r h
 ext:=fun l y rest q h=>by
  have h0:Q (P (l,0)).1 (P (l,0)).2=(y,(rest,0)):=h
  obtain ⟨a,m,e⟩:∃ a m,P (l,0)=(a,(m,0)):=by
   by_cases he:(P (l,0)).2.2=0
   ·exact ⟨(P (l,0)).1,(P (l,0)).2.1,Prod.ext rfl (Prod.ext rfl he)⟩
   ·have:=(hQ (P (l,0)).1).bad _ he
    rw [h0] at this
    exact absurd (by rw [← this]) he
  rw [e] at h0
  show Q (P (l++q,0)).1 (P (l++q,0)).2=_
  rw [hP.ext l a m q e]
  exact (hQ a).ext m y rest q h0
 suf:=fun r=>((hQ (P r).1).suf (P r).2).trans (hP.suf r)
theorem par_pure {α:Type} (a:α):Par (pureS a) where
 bad:=fun r h=>rfl
 ext:=fun l y rest q h=>by
  unfold pureS at h ⊢
  obtain ⟨h1,h⟩:=Prod.mk.inj h
  obtain ⟨h2 , -⟩:=Prod.mk.inj h
  rw [h1,h2]
 suf:=fun r=>List.suffix_refl _
theorem par_ok {α:Type} (a z:α):Par (okS a z) where
 bad:=fun r h=>rfl
 ext:=fun l y rest q h=>by
  unfold okS at h ⊢
  obtain ⟨h1,h⟩:=Prod.mk.inj h
  obtain ⟨h2 , -⟩:=Prod.mk.inj h
  rw [if_pos rfl] at h1 ⊢
  rw [h1,h2]
 suf:=fun r=>List.suffix_refl _
theorem par_must (b:Bool):Par (mustU b) where
 bad:=fun r h=>by
  show mustS b r=r
  unfold mustS
  rw [if_neg (fun q=>h q.1)]
 ext:=fun l y rest q h=>by
  cases b with
  | true=>
   unfold mustU mustS at h ⊢
   rw [if_neg (by simp)] at h ⊢
   obtain ⟨-,h⟩:=Prod.mk.inj h
   obtain ⟨h2 , -⟩:=Prod.mk.inj h
   rw [h2]
  | false=>
   unfold mustU mustS at h
   rw [if_pos ⟨rfl,rfl⟩] at h
   have:=congrArg (fun x=>x.2.2) h
   exact absurd (show (3:Int)=0 from this) (by decide)
 suf:=fun r=>by
  show (mustS b r).1 <:+ _
  rw [must_1]
  exact List.suffix_refl _
theorem par_take (n:Nat):Par (takeS n) where
 bad:=fun r h=>by rw [take_bad h]
 ext:=fun l y rest q h=>by
  unfold takeS at h ⊢
  rw [if_neg (by simp)] at h ⊢
  dsimp only at h ⊢
  by_cases hl:l.length < n
  ·rw [if_pos hl] at h
   have:=congrArg (fun x=>x.2.2) h
   exact absurd (show (8:Int)=0 from this) (by decide)
  ·rw [if_neg hl] at h
   rw [if_neg (by rw [List.length_append];omega)]
   obtain ⟨h1,h2⟩:=Prod.mk.inj h
   obtain ⟨h2 , -⟩:=Prod.mk.inj h2
   rw [List.take_append_of_le_length (by omega),List.drop_append_of_le_length (by omega),h1,h2]
 suf:=fun r=>by
  unfold takeS
  split
  ·exact List.suffix_refl _
  ·split
   ·exact List.suffix_refl _
   ·exact List.drop_suffix _ _
theorem numS_eq:numS=bindS (takeS 1) fun hd=>if hd.length=0 then pureS 0 else bindS (mustU (decide (((hd.getD (0:Int).toNat default:Nat):Int)≤8))) fun _=>bindS (takeS (hd.getD (0:Int).toNat default)) fun L=>
  bindS (mustU (if L.length=0 then true else decide (0 < ((L.getD (0:Int).toNat default:Nat):Int)))) fun _=>okS (valB L) 0:=by
 funext r
 unfold numS
 show _=(if (takeS 1 r).1.length=0 then pureS 0 else _) (takeS 1 r).2
 by_cases h:(takeS 1 r).1.length=0
 ·rw [if_pos h,if_pos h];rfl
 ·rw [if_neg h,if_neg h];rfl
theorem par_num:Par numS:=by
 rw [numS_eq]
 refine par_bind (par_take 1) fun hd=>?_
 split
 ·exact par_pure _
 ·exact par_bind (par_must _) fun _=>par_bind (par_take _) fun L=>par_bind (par_must _) fun _=>par_ok _ _
theorem smallS_eq (most:Int):smallS most=bindS numS fun n=>bindS (mustU (decide (0≤most)&&decide ((n:Int)≤most))) fun _=>okS (n:Int) 0:=rfl
theorem par_small (most:Int):Par (smallS most):=by
 rw [smallS_eq]
 exact par_bind par_num fun _=>par_bind (par_must _) fun _=>par_ok _ _
def zig (n:Int):Nat:=if 0≤n then (2 * n).toNat else (2 * (-n - 1)+1).toNat
def unz (m:Nat):Int:=if m % 2=1 then -((m / 2:Nat):Int) - 1 else ((m / 2:Nat):Int)
def zOk (m:Nat):Bool:=if m % 2=0 then decide (m / 2≤4611686018427387904) else decide (m / 2 < 4611686018427387904)
def intB (n:Int):List Nat:=numB (zig n)
def intS:RS→Int × RS:=bindS numS fun m=>bindS (mustU (zOk m)) fun _=>okS (unz m) 0
theorem par_int:Par intS:=par_bind par_num fun _=>par_bind (par_must _) fun _=>par_ok _ _
def textB (b:List Nat):List Nat:=numB b.length++b
def textS (most:Int):RS→List Nat × RS:=bindS (smallS most) fun n=>takeS n.toNat
theorem par_text (most:Int):Par (textS most):=par_bind (par_small _) fun _=>par_take _
def allS {α:Type} (P:RS→α × RS):Nat→RS→List α × RS
 | 0=>pureS []
 | k+1=>bindS (allS P k) fun l=>bindS P fun a=>pureS (l++[a])
theorem par_all {α:Type} {P:RS→α × RS} (hP:Par P):∀ k,Par (allS P k)
 | 0=>par_pure _
 | k+1=>par_bind (par_all hP k) fun _=>par_bind hP fun _=>par_pure _
def manyS {α:Type} (P:RS→α × RS):Nat→RS→List α × RS
 | 0,r=>([],r)
 | k+1,r=>if (manyS P k r).2.2=0 then ((manyS P k r).1++[(P (manyS P k r).2).1],(P (manyS P k r).2).2) else manyS P k r
theorem par_many {α:Type} {P:RS→α × RS} (hP:Par P):∀ k,Par (manyS P k)
 | 0=>par_pure []
 | k+1=>{
  bad:=fun r h=>by
   have h1:=(par_many hP k).bad r h
   rw [manyS,if_neg (by rw [h1];exact h)]
   exact h1
  ext:=fun l y rest q h=>by
   rw [manyS] at h ⊢
   by_cases he:(manyS P k (l,0)).2.2=0
   ·rw [if_pos he] at h
    have e:manyS P k (l,0)=((manyS P k (l,0)).1,((manyS P k (l,0)).2.1,0)):=Prod.ext rfl (Prod.ext rfl he)
    have hx:=(par_many hP k).ext l _ _ q e
    rw [hx,if_pos rfl]
    obtain ⟨h1,h2⟩:=Prod.mk.inj h
    have e2:P ((manyS P k (l,0)).2.1,0)=((P (manyS P k (l,0)).2).1,(rest,0)):=by
     rw [show ((manyS P k (l,0)).2.1,(0:Int))=(manyS P k (l,0)).2 from Prod.ext rfl he.symm]
     exact Prod.ext rfl h2
    have hy:=hP.ext _ _ _ q e2
    dsimp only
    rw [hy,← h1]
   ·rw [if_neg he] at h
    exact absurd (by rw [h]) he
  suf:=fun r=>by
   rw [manyS]
   split
   ·exact (hP.suf _).trans ((par_many hP k).suf r)
   ·exact (par_many hP k).suf r }
theorem many_len {α:Type} (P:RS→α × RS) (r:RS):∀ k,(manyS P k r).1.length≤k
 | 0=>Nat.le_refl _
 | k+1=>by
  have:=many_len P r k
  rw [manyS]
  split
  ·rw [List.length_append,List.length_singleton];omega
  ·omega
theorem all_len {α:Type} (P:RS→α × RS):∀ k r,(allS P k r).1.length=k
 | 0,r=>rfl
 | k+1,r=>by
  have:=all_len P k r
  show ((allS P k r).1++[_]).length=_
  rw [List.length_append,List.length_singleton,this]
/-! back -/
theorem flat_drop {α:Type} (enc:α→List Nat) (L:List α) {k:Nat} (h:k < L.length):(L.drop k).flatMap enc=enc L[k]++(L.drop (k+1)).flatMap enc:=by
 rw [List.drop_eq_getElem_cons h,List.flatMap_cons]
theorem all_back {α:Type} {P:RS→α × RS} {enc:α→List Nat} {L:List α} (h:∀ a∈L,∀ q,P (enc a++q,0)=(a,(q,0))) (q:List Nat):∀ k,k≤L.length→allS P k (L.flatMap enc++q,0)=(L.take k,((L.drop k).flatMap enc++q,0))
 | 0,_=>rfl
 | k+1,hk=>by
  have ih:=all_back h q k (by omega)
  show bindS (allS P k) _ _=_
  unfold bindS
  rw [ih]
  dsimp only
  rw [flat_drop enc L (show k < L.length by omega),List.append_assoc,h _ (List.getElem_mem _),List.take_succ_eq_append_getElem (by omega)]
  rfl
theorem many_back {α:Type} {P:RS→α × RS} {enc:α→List Nat} {L:List α} (h:∀ a∈L,∀ q,P (enc a++q,0)=(a,(q,0))) (q:List Nat):∀ k,k≤L.length→manyS P k (L.flatMap enc++q,0)=(L.take k,((L.drop k).flatMap enc++q,0))
 | 0,_=>rfl
 | k+1,hk=>by
  have ih:=many_back h q k (by omega)
  rw [manyS,ih]
  dsimp only
  rw [if_pos rfl,flat_drop enc L (show k < L.length by omega),List.append_assoc,h _ (List.getElem_mem _),List.take_succ_eq_append_getElem (by omega)]
theorem valB_be:∀ (f x:Nat),x < 256 ^ f→valB (beF f x)=x
 | 0,x,h=>by rw [Nat.pow_zero] at h;rw [show x=0 by omega];rfl
 | f+1,x,h=>by
  rw [beF]
  split
  ·rename_i hx;rw [hx];rfl
  ·rw [valB_snoc,valB_be f (x / 256) (by rw [Nat.pow_succ] at h;exact Nat.div_lt_of_lt_mul (by rw [Nat.mul_comm];exact h))]
   omega
theorem be_head:∀ (f x:Nat),x < 256 ^ f→(beF f x).length≠0→0 < (beF f x).getD 0 default
 | 0,x,_,h=>absurd rfl h
 | f+1,x,hx,h=>by
  rw [beF] at h ⊢
  by_cases h0:x=0
  ·rw [if_pos h0] at h;exact absurd rfl h
  ·rw [if_neg h0]
   have hx':x / 256 < 256 ^ f:=by rw [Nat.pow_succ] at hx;exact Nat.div_lt_of_lt_mul (by rw [Nat.mul_comm];exact hx)
   by_cases hl:(beF f (x / 256)).length=0
   ·have e:=List.eq_nil_of_length_eq_zero hl
    have hz:x / 256=0:=by
     have:=valB_be f (x / 256) hx'
     rw [e] at this
     exact this.symm
    rw [e]
    show 0 < x % 256
    omega
   ·rw [List.getD_eq_getElem?_getD,List.getElem?_append_left (by omega),← List.getD_eq_getElem?_getD]
    exact be_head f (x / 256) hx' hl
theorem take_ok {n:Nat} {a q:List Nat} (h:a.length=n):takeS n (a++q,0)=(a,(q,0)):=by
 unfold takeS
 rw [if_neg (by simp)]
 dsimp only
 rw [if_neg (by rw [List.length_append];omega),List.take_append_of_le_length (by omega),List.take_of_length_le (by omega),List.drop_append_of_le_length (by omega),List.drop_of_length_le (by omega)]
 rfl
theorem must_ok {b:Bool} {r:RS} (h:b=true):mustU b r=((),r):=by
 unfold mustU mustS
 rw [if_neg (by rw [h];simp)]
theorem num_back {x:Nat} (hx:x < 18446744073709551616) (q:List Nat):numS (numB x++q,0)=(x,(q,0)):=by
 have hx':x < 256 ^ 8:=hx
 have h8:(be x).length≤8:=beF_le 8 x
 rw [numS_eq]
 unfold bindS
 have e1:takeS 1 (numB x++q,0)=([(be x).length],(be x++q,0)):=take_ok (n:=1) (a:=[(be x).length]) (q:=be x++q) rfl
 rw [e1]
 dsimp only
 rw [if_neg (by simp)]
 have e2:([(be x).length]:List Nat).getD (0:Int).toNat default=(be x).length:=rfl
 rw [e2,must_ok (decide_eq_true (by omega))]
 dsimp only
 rw [take_ok rfl]
 dsimp only
 rw [must_ok (by
  split
  ·rfl
  ·rename_i h
   refine decide_eq_true ?_
   have:=be_head 8 x hx' h
   exact Int.natCast_pos.2 this)]
 show okS (valB (be x)) 0 (q,0)=_
 unfold okS
 rw [if_pos rfl,show valB (be x)=x from valB_be 8 x hx']
theorem small_back {x:Nat} {most:Int} (hx:(x:Int)≤most) (hm:most≤9223372036854775807) (q:List Nat):smallS most (numB x++q,0)=((x:Int),(q,0)):=by
 rw [smallS_eq]
 unfold bindS
 rw [num_back (by omega)]
 dsimp only
 rw [must_ok (by rw [decide_eq_true (show 0≤most by omega),decide_eq_true hx];rfl)]
 rfl
theorem zig_unz (n:Int):unz (zig n)=n:=by
 unfold unz zig
 by_cases h:0≤n
 ·rw [if_pos h,if_neg (by omega)];omega
 ·rw [if_neg h,if_pos (by omega)];omega
theorem zig_ok {n:Int} (h : -4611686018427387904≤n∧n≤4611686018427387904):zOk (zig n)=true∧zig n < 18446744073709551616:=by
 unfold zOk zig
 by_cases h0:0≤n
 ·rw [if_pos h0,if_pos (by omega)]
  exact ⟨decide_eq_true (by omega),by omega⟩
 ·rw [if_neg h0,if_neg (by omega)]
  exact ⟨decide_eq_true (by omega),by omega⟩
theorem int_back {n:Int} (h : -4611686018427387904≤n∧n≤4611686018427387904) (q:List Nat):intS (intB n++q,0)=(n,(q,0)):=by
 unfold intS intB bindS
 rw [num_back (zig_ok h).2]
 dsimp only
 rw [must_ok (zig_ok h).1]
 unfold okS
 rw [if_pos rfl,zig_unz]
theorem text_back {b:List Nat} {most:Int} (h:(b.length:Int)≤most) (hm:most≤9223372036854775807) (q:List Nat):textS most (textB b++q,0)=(b,(q,0)):=by
 unfold textS textB bindS
 rw [List.append_assoc,small_back h hm]
 dsimp only
 rw [Int.toNat_natCast]
 exact take_ok rfl
def numI (n:Int):List Nat:=numB n.toNat
def vecB (v:List Int):List Nat:=v.flatMap numI
def entB (e:Ent):List Nat:=numI e.1++(numI e.2.1++(numI e.2.2.1++intB e.2.2.2))
def cartB (c:Crt):List Nat:=vecB c.1++(numB c.2.length++c.2.flatMap entB)
def numZ:RS→Int × RS:=bindS numS fun n=>pureS (n:Int)
theorem par_numZ:Par numZ:=par_bind par_num fun _=>par_pure _
def vecS:RS→List Int × RS:=bindS (allS numZ 8) fun v=>okS v zeroV
theorem par_vec:Par vecS:=par_bind (par_all par_numZ 8) fun _=>par_ok _ _
def entS:RS→Ent × RS:=bindS (smallS 60) fun a=>bindS (smallS 8) fun b=>bindS numZ fun c=>bindS intS fun d=>pureS (a,b,c,d)
theorem par_ent:Par entS:=par_bind (par_small _) fun _=>par_bind (par_small _) fun _=>par_bind par_numZ fun _=>par_bind par_int fun _=>par_pure _
def cartS:RS→Crt × RS:=bindS vecS fun v=>bindS (smallS 400) fun n=>bindS (manyS entS n.toNat) fun l=>bindS (mustU (rightF v l)) fun _=>okS (v,l) (zeroV,[])
theorem par_cart:Par cartS:=par_bind par_vec fun _=>par_bind (par_small _) fun _=>par_bind (par_many par_ent _) fun _=>par_bind (par_must _) fun _=>par_ok _ _
def endS (r:RS):Int:=if r.2≠0 then r.2 else if 0 < r.1.length then 2 else 0
def vecOk (v:List Int):Prop:=v.length=8∧∀ n∈v,0≤n∧n < 18446744073709551616
theorem numZ_back {n:Int} (h:0≤n∧n < 18446744073709551616) (q:List Nat):numZ (numI n++q,0)=(n,(q,0)):=by
 unfold numZ numI bindS
 rw [num_back (by omega)]
 show ((n.toNat:Int),(q,(0:Int)))=_
 rw [Int.toNat_of_nonneg h.1]
theorem vec_back {v:List Int} (h:vecOk v) (q:List Nat):vecS (vecB v++q,0)=(v,(q,0)):=by
 have h1:=all_back (P:=numZ) (enc:=numI) (L:=v) (fun a ha q=>numZ_back (h.2 a ha) q) q 8 (by rw [h.1];exact Nat.le_refl _)
 unfold vecS bindS vecB
 rw [h1,List.take_of_length_le (by rw [h.1];exact Nat.le_refl _),List.drop_of_length_le (by rw [h.1];exact Nat.le_refl _)]
 rfl
theorem smallI_back {n most:Int} (h0:0≤n) (h:n≤most) (hm:most≤9223372036854775807) (q:List Nat):smallS most (numI n++q,0)=(n,(q,0)):=by
 unfold numI
 rw [small_back (by omega) hm,Int.toNat_of_nonneg h0]
def entOk (e:Ent):Prop:=(0≤e.1∧e.1≤60)∧(0≤e.2.1∧e.2.1≤8)∧(0≤e.2.2.1∧e.2.2.1 < 18446744073709551616)∧(-1000≤e.2.2.2∧e.2.2.2≤1000)
theorem ent_back {e:Ent} (h:entOk e) (q:List Nat):entS (entB e++q,0)=(e,(q,0)):=by
 obtain ⟨h1,h2,h3,h4⟩:=h
 unfold entS entB bindS
 rw [List.append_assoc,smallI_back h1.1 h1.2 (by decide)]
 dsimp only
 rw [List.append_assoc,smallI_back h2.1 h2.2 (by decide)]
 dsimp only
 rw [List.append_assoc,numZ_back h3]
 dsimp only
 rw [int_back (by omega)]
 rfl
theorem get_fit {v:List Int} (h:∀ n∈v,0≤n∧n < 18446744073709551616) (i:Int):getF v i < 18446744073709551616:=by
 unfold getF
 split
 ·rcases Nat.lt_or_ge (i - 1).toNat v.length with hj|hj
  ·have e:v.getD (i - 1).toNat default=v[(i - 1).toNat]:=getD_at hj
   first|(rw [e];exact (h _ (List.getElem_mem _)).2)|omega
  ·rw [List.getD_eq_getElem?_getD,List.getElem?_eq_none hj];decide
 ·decide
theorem ok_ents {c:Crt} (hr:rightF c.1 c.2=true) (hv:vecOk c.1):∀ e∈c.2,entOk e:=by
 intro e he
 have ho:=ok_iff.1 hr
 have h1:=ho.ent e he
 have h2:=ho.has e he
 unfold entF at h1
 unfold hasF dotF at h2
 have h1:=of_decide_eq_true h1
 rw [Bool.and_eq_true,decide_eq_true_eq,decide_eq_true_eq] at h2
 obtain ⟨⟨b1,b2,b3⟩,b4⟩:=h2
 have b1:1≤e.2.1:=b1
 have b2:e.2.1≤8:=b2
 have b3:0 < e.2.2.1:=b3
 have b4:e.2.2.1≤getF c.1 e.2.1:=b4
 have:=get_fit hv.2 e.2.1
 unfold entOk
 omega
theorem cart_back {c:Crt} (hr:rightF c.1 c.2=true) (hv:vecOk c.1) (q:List Nat):cartS (cartB c++q,0)=(c,(q,0)):=by
 have hl:c.2.length≤400:=(ok_iff.1 hr).few
 have hm:=many_back (P:=entS) (enc:=entB) (L:=c.2) (fun a ha q=>ent_back (ok_ents hr hv a ha) q) q c.2.length (Nat.le_refl _)
 unfold cartS cartB bindS
 rw [List.append_assoc,vec_back hv]
 dsimp only
 rw [List.append_assoc,small_back (by omega) (by decide)]
 dsimp only
 rw [Int.toNat_natCast,hm]
 dsimp only
 rw [List.take_of_length_le (Nat.le_refl _),List.drop_of_length_le (Nat.le_refl _),must_ok hr]
 rfl
/-! lists -/
abbrev Kd:=List Nat × Crt
def bLt:List Nat→List Nat→Bool
 | [],[]=>false
 | [],_::_=>true
 | _::_,[]=>false
 | a::l,b::m=>if a=b then bLt l m else decide (a < b)
def kdB (k:Kd):List Nat:=textB k.1++cartB k.2
def listB (l:List Kd):List Nat:=numB l.length++l.flatMap kdB
def kdS:RS→Kd × RS:=bindS (textS 20) fun k=>bindS cartS fun c=>pureS (k,c)
theorem par_kd:Par kdS:=par_bind (par_text _) fun _=>par_bind par_cart fun _=>par_pure _
def listS:RS→List Kd × RS:=bindS (smallS 2000) fun n=>manyS kdS n.toNat
def kdOk (l:List Kd) (i:Nat):Bool:=decide ((l.getD i default).1.length≤20)&&((decide (i=0)||bLt (l.getD (i - 1) default).1 (l.getD i default).1)&&rightF (l.getD i default).2.1 (l.getD i default).2.2)
def keysF (l:List Kd):Bool:=decide (l.length≤2000∧∀ i,i < l.length→kdOk l i=true)
def readL (b:List Nat):List Kd × Int:=if endS (listS (b,0)).2≠0∨keysF (listS (b,0)).1=false then ([],3) else ((listS (b,0)).1,0)
end Go.Proofs.YtpgppgehhclfoaaGreat.Wi
namespace Go.Aw
open Go Go.RowKit
set_option linter.unusedVariables false
set_option linter.unusedSimpArgs false
def RV (r:AV):Prop:=∀ μ X Y v,r.holds μ X v→r.holds μ Y v
theorem RV.v {c:Value}:RV (.p (.v c)):=fun _ _ _ _ h=>h
theorem RV.a {cs:List AC} (h:∀ c∈cs,∃ x,c=.p (.v x)):RV (.a cs):=by
  rintro μ X Y v ⟨arr,rfl,h1⟩
  refine ⟨arr,rfl,h1.1,fun i c x hc hx=>?_⟩
  obtain ⟨y,rfl⟩:=h c (List.mem_of_getElem? hc)
  exact h1.2 i _ x hc hx
def Lnd (σ:St) (ob:Nat) (a b:AV):Prop:=
  Ent a b∨∃ g es n ty rows,a=.o (.osl ob g es 0 rows.length)∧σ.mem ob=(n,some (.buf ty es rows))∧n=g+1∧b=.p (.sl es rows false)
theorem lop_lend {C:Ctx} {o:Oper} {σ:St} {f:FuncId} {xs0:Array Operand} {ts:Array TypeId} {args:List AV} {r:AV} {ob:Nat} (hfn:FnT C.P f) (ho:o.op=.call ⟨.value (.func f),xs0,ts⟩)
    (hE:All2 (Lnd σ ob) (xs0.toList.map σ.look) args) (hc:PCall C.P f args r) (hr:RV r) (hd:dOk C o.dst=true):LOp C o σ ⟨r,[]⟩ (fun y=>y == ob):=by
  refine ⟨fun x m h=>by simp at h,fun τ hl hm a w ⟨G,h⟩ K Q hK=>?_⟩
  have hmo:τ.mem ob=σ.mem ob:=hm ob (by simp)
  have hE':All2 (Lnd τ ob) (xs0.toList.map τ.look) args:=by
    have:xs0.toList.map τ.look=xs0.toList.map σ.look:=List.map_congr_left fun x hx=>hl x (by rw [ho];simp [Op.operands,Call.operands];right;simpa using hx)
    rw [this]
    refine hE.mono fun a b k=>?_
    unfold Lnd at k ⊢
    rw [hmo];exact k
  have hS:Wd.le ⟨w,G.S⟩ ⟨w,fun b=>G.S b∨b∈G.φ ob⟩:=fun b hb=>⟨.inl hb,rfl⟩
  have hv:All2 (AV.holds Mu.none ⟨w,fun b=>G.S b∨b∈G.φ ob⟩) args (xs0.toList.map a.eval):=by
    refine ⟨by have:=hE'.1;simpa using this.symm,fun i av v hav hvv=>?_⟩
    rw [List.getElem?_map] at hvv
    cases hx:xs0.toList[i]? with
    | none=>rw [hx] at hvv;cases hvv
    | some x=>
      rw [hx] at hvv;simp at hvv;subst hvv
      rcases hE'.2 i (τ.look x) av (by simp [List.getElem?_map,hx]) hav with k | ⟨g,es,n,ty,rows,e1,e2,e3,e4⟩
      · exact (k _ _ _ (h.look x)).mono (Mu.le.refl _) hS
      · have hlk:=look_of h e1
        obtain ⟨m,c,p1,p2,p3⟩:=hlk
        obtain ⟨g',m',q1,q2,q3,q4,q5,q6⟩:=h.mem ob _ _ e2
        obtain rfl:g=g':=by omega
        rw [p1] at q2
        obtain rfl:=Option.some.inj q2
        subst e4
        refine ⟨m.map fun b=>(⟨b,0 * es,none⟩:Addr),c - 0,p3,by simpa using p2,by simpa using q4,by simp,?_⟩
        rcases q6 with ⟨r1,r2,_⟩ | ⟨b,arr,r1,r2,r3,r4,r5⟩
        · simp only at r1 r2 p2
          subst r1
          exact ⟨List.eq_nil_of_length_eq_zero (by omega),by simpa using r2⟩
        · simp only at r1
          subst r1
          refine .inr ⟨rfl,.inr (by rw [r2];simp),arr,ty,(0,0),r3,fun i row hrow=>⟨(r5 i row hrow).1,fun j p hp=>?_⟩⟩
          obtain ⟨z,hz,hz'⟩:=(r5 i row hrow).2 j p hp
          exact ⟨z,by simpa using hz,p.mono hS hz'⟩
  obtain ⟨fn,h1,h2,h3⟩:=hfn.fn
  have hrun:(execOp a.eval o).run C.P w=.ok (.enter f (xs0.map a.eval)) w:=by
    have e1:a.eval (.func f)=.func (.func f) #[] #[]:=rfl
    have hname : (fn.name == "runtime.NumGoroutine") = false := h2
    cases hbody:fn.body with
    | none=>simp [hbody] at h3
    | some c => simp [execOp, ho, resolve, e1, Deferred.ofValue, invoke, callFunc, program, Sem.run, Sem.run_bind, h1, hbody, pure, show ¬ fn.name = "runtime.NumGoroutine" from by simpa using hname]
  refine wpIn_exec (by rw [ho];intro c h;cases h) ?_
  rw [hrun,Oper.uponIn_enter]
  have h9:Calls C.P f (xs0.toList.map a.eval).toArray w fun
      | .returned v,w''=>K (a.put o.dst v) w''
      | .panicked chain,w''=>Q (.panic chain) a w''
      | .outgrown,_=>LetsOut Q:=by
    refine (hc w (fun b=>G.S b∨b∈G.φ ob) _ (fun b hb=>hb.elim (fun k=>(h.sbd b k).1) fun k=>(h.own ob b k).2) hv).mono ?_
    rintro e w' ⟨v,rfl,⟨S',hS1,hS2,hrr⟩,hb,hdr⟩
    have h1:=h.world (Quiet.of_below hb hdr) (fun b=>w.heap.size≤b∧b < w'.heap.size) (fun b hb=>hb)
    exact hK _ _ ⟨_,h1.setv hd ((hr _ _ _ _ hrr).mono (Mu.none_le _) (Wd.le.refl _))⟩
  have e:(xs0.toList.map a.eval).toArray=xs0.map a.eval:=by rw [← Array.toList_map]
  rw [e] at h9
  exact ⟨by simp [fz,Fence.wide],(callsIn_wide (n:=0)).2 h9⟩
theorem lop_lend1 {C:Ctx} {o:Oper} {σ:St} {f:FuncId} {x:Operand} {ts:Array TypeId} {r:AV} {pre:Prop} {ob g es n len:Nat} {ty:TypeId} {rows:List (List PVal)} (ho:o.op=.call ⟨.value (.func f),#[x],ts⟩) (hfn:FnT C.P f) (hx:σ.look x=.o (.osl ob g es 0 len)) (hm:σ.mem ob=(n,some (.buf ty es rows))) (hn:n=g+1) (hl:len=rows.length)
    (hc:PC C.P f [.p (.sl es rows false)] pre r) (hpre:pre) (hr:RV r) (hd:dOk C o.dst=true):LOp C o σ ⟨r,[]⟩ (fun y=>y == ob):=by
  subst hl
  exact lop_lend hfn ho (.cons (.inr ⟨g,es,n,ty,rows,hx,hm,hn,rfl⟩) .nil) (hc.call hpre) hr hd
theorem lop_lend2 {C:Ctx} {o:Oper} {σ:St} {f:FuncId} {x y:Operand} {ts:Array TypeId} {r ay:AV} {pre:Prop} {ob g es n len:Nat} {ty:TypeId} {rows:List (List PVal)} (ho:o.op=.call ⟨.value (.func f),#[x,y],ts⟩) (hfn:FnT C.P f) (hx:σ.look x=.o (.osl ob g es 0 len)) (hm:σ.mem ob=(n,some (.buf ty es rows))) (hn:n=g+1) (hl:len=rows.length)
    (hy:σ.look y=ay) (hp:PureAV ay) (hc:PC C.P f [.p (.sl es rows false),ay] pre r) (hpre:pre) (hr:RV r) (hd:dOk C o.dst=true):LOp C o σ ⟨r,[]⟩ (fun y=>y == ob):=by
  subst hl
  exact lop_lend hfn ho (.cons (.inr ⟨g,es,n,ty,rows,hx,hm,hn,rfl⟩) (.cons (.inl (by rw [hy];exact hp.pure)) .nil)) (hc.call hpre) hr hd
section ops
variable {C:Ctx} {o:Oper} {σ:St}
theorem lop_cap_asl {T e:TypeId} {x:Operand} {sz by_:Nat} {ob g off len cap:Nat} (ho:o.op=.call ⟨.builtin .cap,#[x],#[T]⟩) (hT:TI C.P T (.slice e) sz by_) (hx:σ.look x=.o (.asl ob g off len cap)) (hd:dOk C o.dst=true) :
  LOp C o σ ⟨.p (.v (.int .i64 cap)),[]⟩ (fun _=>false):=
 lop_val hd fun τ a w G hl' hm' h=>by
  obtain ⟨m,c,h0,h1⟩:=look_of h ((hl' x (by simp [ho,Op.operands,Call.operands])).trans hx)
  obtain ⟨d,hdd,hkk⟩:=hT.undd
  have:d=.slice e:=by cases d<;>simp [TK.of] at hkk;rw [hkk]
  subst this
  exact ⟨.int .i64 cap,by simp [execOp,ho,resolve,invoke,builtin,Builtin.cap_,h1,run_underlying hdd,goInt],rfl,rfl⟩
theorem slice_asl {T e:TypeId} {x:Operand} {lo hi:Option Operand} {sz by_:Nat} (hT:TI C.P T (.slice e) sz by_) {ke:TK} {sze be:Nat} (he:TI C.P e ke sze be) {ob g off len cap l h:Nat} (vlo vhi:Option (IntKind × Int))
  (ho:o.op=.slice T x lo hi none) (hx:σ.look x=.o (.asl ob g off len cap)) (hlo:lo.map σ.look=vlo.map fun p=>.p (.v (.int p.1 p.2))) (hhi:hi.map σ.look=vhi.map fun p=>.p (.v (.int p.1 p.2)))
  (hb:∀ w,(Instr.sliceBounds true len cap (vlo.map fun p=>.int p.1 p.2) (vhi.map fun p=>.int p.1 p.2) none).run C.P w=.ok (l,h,cap) w) (hlc:l < cap∨l=0) (hd:dOk C o.dst=true) :
  LOp C o σ ⟨.o (.asl ob g (off+l * sze) (h - l) (cap - l)),[]⟩ (fun _=>false):=
 lop_val hd fun τ a w G hl hm' hr=>by
  obtain ⟨b,c,h1,h2⟩:=look_of hr ((hl x (by simp [ho,Op.operands])).trans hx)
  have opt:∀ (q:Option Operand) (v:Option (IntKind × Int)),(∀ y,q=some y→y∈o.op.operands)→q.map σ.look=v.map (fun p=>AV.p (.v (.int p.1 p.2)))→q.map a.eval=v.map fun p=>Value.int p.1 p.2:=fun q v hq hv=>by
   cases q with
   | none=>cases v<;>simp_all
   | some y=>
    cases v with
    | none=>simp at hv
    | some p=>
     simp only [Option.map_some,Option.some.injEq] at hv ⊢
     exact val_of hr ((hl y (hq y rfl)).trans hv)
  have e1:=opt lo vlo (fun y hy=>by subst hy;simp [ho,Op.operands]) hlo
  have e2:=opt hi vhi (fun y hy=>by subst hy;simp [ho,Op.operands]) hhi
  obtain ⟨d,hdd,hkk⟩:=hT.undd
  have:d=.slice e:=by cases d<;>simp [TK.of] at hkk;rw [hkk]
  subst this
  refine ⟨.slice (some ⟨b,off+l * sze,none⟩) (h - l) (cap - l),?_,b,c,h1,rfl⟩
  have hbase:(if cap=l then (some ⟨b,off,none⟩:Option Addr) else (some (⟨b,off,none⟩:Addr)).map (·.add (l * sze)))=some ⟨b,off+l * sze,none⟩:=by
   by_cases hc:cap=l
   ·have:l=0:=by omega
    rw [if_pos hc,this,Nat.zero_mul,Nat.add_zero]
   ·rw [if_neg hc,Option.map_some,add_addr]
  simp only [execOp,ho,Instr.sliceAt,Sem.run_bind,run_underlying hdd,Result.andThen_ok,Instr.slice,h2,e1,e2,Option.map_none,hb,he.run_sizeOf,Sem.run_pure,hbase]
theorem lop_sl_asl_l {T e:TypeId} {x xl:Operand} {sz by_:Nat} {ke:TK} {sze be:Nat} {ob g off len cap:Nat} {kl:IntKind} {l:Int} (ho:o.op=.slice T x (some xl) none none) (hT:TI C.P T (.slice e) sz by_) (he:TI C.P e ke sze be) (hx:σ.look x=.o (.asl ob g off len cap)) (hlo:σ.look xl=.p (.v (.int kl l))) (h0:0≤l) (h1:l≤len) (h2:len≤cap) (h3:l.toNat < cap) (hd:dOk C o.dst=true) :
  LOp C o σ ⟨.o (.asl ob g (off+l.toNat * sze) (len - l.toNat) (cap - l.toNat)),[]⟩ (fun _=>false):=
 slice_asl hT he (some (kl,l)) none ho hx (by simp [hlo]) rfl (fun w=>by simp [Instr.sliceBounds,run_sb h0 h1]) (.inl h3) hd
theorem lop_sl_asl_h {T e:TypeId} {x xh:Operand} {sz by_:Nat} {ke:TK} {sze be:Nat} {ob g off len cap:Nat} {kh:IntKind} {h:Int} (ho:o.op=.slice T x none (some xh) none) (hT:TI C.P T (.slice e) sz by_) (he:TI C.P e ke sze be) (hx:σ.look x=.o (.asl ob g off len cap)) (hhi:σ.look xh=.p (.v (.int kh h))) (h0:0≤h) (h1:h≤cap) (hd:dOk C o.dst=true) :
  LOp C o σ ⟨.o (.asl ob g off h.toNat cap),[]⟩ (fun _=>false):=by
 have:=slice_asl (l:=0) (h:=h.toNat) hT he none (some (kh,h)) ho hx rfl (by simp [hhi]) (fun w=>by simp [Instr.sliceBounds,run_sb (y:=cap) h0 h1]) (.inr rfl) hd
 simpa using this
theorem lop_sl_osl_l {T e:TypeId} {x xl:Operand} {sz by_:Nat} {ke:TK} {sze be:Nat} {ob g len:Nat} {kl:IntKind} {l:Int} (ho:o.op=.slice T x (some xl) none none) (hT:TI C.P T (.slice e) sz by_) (he:TI C.P e ke sze be) (hx:σ.look x=.o (.osl ob g sze 0 len)) (hlo:σ.look xl=.p (.v (.int kl l))) (h0:0≤l) (h1:l < len) (hd:dOk C o.dst=true) :
  LOp C o σ ⟨.o (.osl ob g sze l.toNat (len - l.toNat)),[]⟩ (fun _=>false):=
 lop_val hd fun τ a w G hl hm' hr=>by
  obtain ⟨m,c,k1,k2,k3⟩:=look_of hr ((hl x (by simp [ho,Op.operands])).trans hx)
  have e1:=val_of hr ((hl xl (by simp [ho,Op.operands])).trans hlo)
  obtain ⟨d,hdd,hkk⟩:=hT.undd
  have:d=.slice e:=by cases d<;>simp [TK.of] at hkk;rw [hkk]
  subst this
  simp only [Nat.zero_mul,Nat.sub_zero,Nat.zero_add] at k2 k3
  refine ⟨.slice (m.map fun b=>⟨b,l.toNat * sze,none⟩) (len - l.toNat) (c - l.toNat),?_,m,c,k1,by omega,rfl⟩
  have hb:(Instr.sliceBounds true len c (some (.int kl l)) none none).run C.P w=.ok (l.toNat,len,c) w:=by simp [Instr.sliceBounds,run_sb h0 (show l≤len by omega)]
  have hne:¬ c=l.toNat:=by omega
  simp only [execOp,ho,Instr.sliceAt,Sem.run_bind,run_underlying hdd,Result.andThen_ok,Instr.slice,k3,e1,Option.map_some,Option.map_none,hb,he.run_sizeOf,Sem.run_pure,if_neg hne]
  cases m with
  | none=>rfl
  | some b=>simp only [Option.map_some,add_addr,Nat.zero_add]
theorem run_copy_es {P:Program} (w:World) (dT sT ty elem:TypeId) (g o dLen dCap:Nat) (a:Addr) (sLen sCap es:Nat) (cur:Array Value) (t:TypeId) (cs:List Value)
  (hu:P.underlying dT=some (.slice elem)) (hs:∀ w,(sizeOf elem).run P w=.ok es w)
  (hg:w.heap[g]?=some (.cells cur t (0,0))) (hn:cs.length=Nat.min sLen dLen * es)
  (hsrc:∀ j v,cs[j]?=some v→w.cell? (a.add j)=some v) (hfit:o+cs.length≤cur.size) (h1:∀ v∈cs,v.oneCell'=true) :
  (Builtin.copy_ #[dT,sT] ty #[.slice (some ⟨g,o,none⟩) dLen dCap,.slice (some a) sLen sCap]).run P w =
   .ok (goInt (Nat.min sLen dLen)) (w.setRow g (cur.toList.take o++cs++cur.toList.drop (o+cs.length)).toArray):=by
 have hl:=run_loadCells_list (P:=P) w a cs hsrc
 have hst:=run_storeCells_at P g o t cs 0 cur w hg (by simpa using hfit) h1
 simp only [Nat.add_zero] at hst
 simp [Builtin.copy_,run_underlying hu,Builtin.lenOf,Builtin.firstCells,hs,← hn,hl,hst]
def SrcN (C:Ctx) (σ:St) (x:Operand) (es L:Nat) (news:List (List PVal)) (ro:Nat→Bool):Prop:=
 ∀ τ a w G,τ.look x=σ.look x→(∀ y,ro y=true→τ.mem y=σ.mem y)→RelG C τ a w G→
  ∃ ad cap,a.eval x=.slice (some ad) L cap∧∀ i row,news[i]?=some row→row.length=es∧∀ j p,row[j]?=some p→∃ c,w.cell? (ad.add (i * es+j))=some c∧p.holds ⟨w,G.S⟩ c
theorem SrcOk.n {C:Ctx} {σ:St} {x:Operand} {es:Nat} {news:List (List PVal)} {ro:Nat→Bool} (h:SrcOk C σ x es news ro) (h0:0 < news.length):SrcN C σ x es news.length news ro:=fun τ a w G h1 h2 hr=>by
 obtain ⟨base,cap,e1,e2⟩:=h τ a w G h1 h2 hr
 cases base with
 | none=>simp only at e2;rw [e2] at h0;cases h0
 | some ad=>exact ⟨ad,cap,e1,e2⟩
end ops
end Go.Aw
namespace Go.Aw
open Go Go.RowKit
set_option linter.unusedVariables false
set_option linter.unusedSimpArgs false
class OvF (P:Program) (f:FuncId) (tS tR:TypeId):Prop where
  fn : ∃ fn, P.funcs[f]? = some fn ∧ (fn.name == "runtime.NumGoroutine") = false ∧ fn.body.isNone = true ∧ Extern.findNext fn = none ∧ Extern.find fn = some (Extern.SlicesOverlaps.overlaps #[tS, tS] #[tR])
end Go.Aw
namespace Go.Proofs.YtpgppgehhclfoaaGreat.Wi
open Go Go.RowKit Go.Aw Go.Aw.Cart Go.Proofs.YtpgppgehhclfoaaGreat.Ca
set_option linter.unusedVariables false
set_option linter.unusedSimpArgs false
theorem bLt_irr:∀ a,bLt a a=false
 | []=>rfl
 | x::l=>by rw [bLt,if_pos rfl];exact bLt_irr l
theorem bLt_trans:∀ {a b c:List Nat},bLt a b=true→bLt b c=true→bLt a c=true
 | [],[],_,h,_=>by cases h
 | [],_::_,[],_,h=>by cases h
 | [],_::_,_::_,_,_=>rfl
 | _::_,[],_,h,_=>by cases h
 | _::_,_::_,[],_,h=>by cases h
 | x::a,y::b,z::c,h1,h2=>by
  rw [bLt] at h1 h2 ⊢
  by_cases hxy:x=y
  ·subst hxy
   rw [if_pos rfl] at h1
   by_cases hxz:x=z
   ·subst hxz
    rw [if_pos rfl] at h2 ⊢
    exact bLt_trans h1 h2
   ·rw [if_neg hxz] at h2 ⊢
    exact h2
  ·rw [if_neg hxy] at h1
   have h1:=of_decide_eq_true h1
   by_cases hyz:y=z
   ·subst hyz
    rw [if_neg hxy]
    exact decide_eq_true h1
   ·rw [if_neg hyz] at h2
    have h2:=of_decide_eq_true h2
    rw [if_neg (by omega)]
    exact decide_eq_true (by omega)
theorem bLt_tri:∀ {a b:List Nat},bLt a b=false→bLt b a=false→a=b
 | [],[],_,_=>rfl
 | [],_::_,h,_=>by cases h
 | _::_,[],_,h=>by cases h
 | x::a,y::b,h1,h2=>by
  rw [bLt] at h1 h2
  by_cases hxy:x=y
  ·subst hxy
   rw [if_pos rfl] at h1 h2
   rw [bLt_tri h1 h2]
  ·rw [if_neg hxy] at h1
   rw [if_neg (fun e=>hxy e.symm)] at h2
   have h1:=of_decide_eq_false h1
   have h2:=of_decide_eq_false h2
   omega
theorem bLt_asym {a b:List Nat} (h:bLt a b=true):bLt b a=false:=by
 cases hb:bLt b a with
 | false=>rfl
 | true=>have:=bLt_trans h hb;rw [bLt_irr] at this;cases this
structure KOk (l:List Kd):Prop where
 few:l.length≤2000
 up:l.Pairwise fun a b=>bLt a.1 b.1=true
 key:∀ e∈l,e.1.length≤20
 cart:∀ e∈l,rightF e.2.1 e.2.2=true
theorem adj_kd {l:List Kd} (h:∀ i,0 < i→i < l.length→bLt (l.getD (i - 1) default).1 (l.getD i default).1=true):l.Pairwise fun a b=>bLt a.1 b.1=true:=by
 have key:∀ j,j < l.length→∀ i,i < j→bLt (l.getD i default).1 (l.getD j default).1=true:=by
  intro j
  induction j with
  | zero=>intro _ i hi;omega
  | succ j ih=>
   intro hj i hi
   have h1:=h (j+1) (by omega) hj
   rw [Nat.add_sub_cancel] at h1
   by_cases e:i=j
   ·rw [e];exact h1
   ·exact bLt_trans (ih (by omega) i (by omega)) h1
 rw [List.pairwise_iff_getElem]
 intro i j hi hj hij
 have:=key j hj i hij
 rwa [getD_at hi,getD_at hj] at this
theorem keys_iff {l:List Kd}:keysF l=true↔KOk l:=by
 unfold keysF kdOk
 rw [decide_eq_true_eq]
 constructor
 ·rintro ⟨h1,h2⟩
  have h3:=fun i hi=>h2 i hi
  simp only [Bool.and_eq_true,Bool.or_eq_true,decide_eq_true_eq] at h3
  refine ⟨h1,adj_kd fun i h0 hi=>((h3 i hi).2.1).resolve_left (by omega),fun e he=>?_,fun e he=>?_⟩
  ·obtain ⟨i,hi,rfl⟩:=getD_mem he
   exact (h3 i hi).1
  ·obtain ⟨i,hi,rfl⟩:=getD_mem he
   exact (h3 i hi).2.2
 ·rintro ⟨h1,h2,h3,h4⟩
  refine ⟨h1,fun i hi=>?_⟩
  simp only [Bool.and_eq_true,Bool.or_eq_true,decide_eq_true_eq]
  have hm:l.getD i default∈l:=by rw [getD_at hi];exact List.getElem_mem _
  refine ⟨h3 _ hm,?_,h4 _ hm⟩
  by_cases h0:i=0
  ·exact .inl h0
  ·right
   rw [getD_at hi,getD_at (show i - 1 < l.length by omega)]
   exact List.pairwise_iff_getElem.1 h2 (i - 1) i (by omega) hi (by omega)
end Go.Proofs.YtpgppgehhclfoaaGreat.Wi
namespace Go.Aw
open Go Go.RowKit
set_option linter.unusedVariables false
set_option linter.unusedSimpArgs false
theorem All2.set {α β:Type} {R:α→β→Prop} {l:List α} {m:List β} (h:All2 R l m) (i:Nat) {a:α} {b:β} (hab:R a b):All2 R (l.set i a) (m.set i b):=by
 refine ⟨by simp [h.1],fun j x y hx hy=>?_⟩
 rw [List.getElem?_set] at hx hy
 by_cases hij:i=j
 ·subst hij
  rw [if_pos rfl] at hx hy
  split at hx
  ·rw [if_pos (by rw [← h.1];assumption)] at hy
   cases hx;cases hy;exact hab
  ·cases hx
 ·rw [if_neg hij] at hx hy
  exact h.2 j x y hx hy
theorem ObjG.drew {mem:Nat→Nat × Option MO} {w:World} {G:Gh} (ho:ObjG mem w G):ObjG mem w.drew G:={
 gens:=ho.gens
 mem:=fun x n mo hx=>by
  obtain ⟨g2,m2,h1,h2,h3⟩:=ho.mem x n mo hx
  exact ⟨g2,m2,h1,h2,h3.mono (Mu.le.refl _) (fun b hb=>⟨hb,rfl⟩) fun _ _=>rfl⟩
 apart:=ho.apart
 stab:=ho.stab
 own:=ho.own
 sbd:=ho.sbd }
theorem RelG.mem' {C:Ctx} {σ:St} {a:Act} {w:World} {G:Gh} (h:RelG C σ a w G) {o n:Nat} {mo mo':MO} (hm:σ.mem o=(n,some mo)) (hh:∀ μ X m fp,mo.holds μ X m fp→(μ o).length=n→(∀ g,n=g+1→(μ o)[g]?=some m)→mo'.holds μ X m fp):∃ G',RelG C (σ.put o (n,some mo')) a w G':=by
 have hlen:(G.μ o).length=n:=by have:=h.gens o;rw [hm] at this;exact this
 obtain ⟨g',m,hg,hmm,hx⟩:=h.mem o _ _ hm
 have eμ:(fun x=>if x=o then G.μ o else G.μ x)=G.μ:=by funext x;split<;>simp_all
 refine ⟨_,h.upd (o:=o) (n':=n) (mo':=some mo') (μo:=G.μ o) (fp':=G.φ o) (w':=w) (fun g x hx=>hx) hlen rfl .same rfl (Nat.le_refl _) (fun _ _ _=>rfl) (fun b hb=>⟨.inl hb,(h.own o b hb).2⟩) (fun mo1 hmo=>?_)⟩
 obtain rfl:=Option.some.inj hmo
 refine ⟨g',m,hg,hmm,?_⟩
 rw [eμ]
 exact hh _ _ _ _ hx hlen fun g hgn=>by
  (obtain rfl:g'=g:=by omega);exact hmm
def MV (mo:MO):Prop:=∀ μ X Y m fp,X.w=Y.w→mo.holds μ X m fp→mo.holds μ Y m fp
theorem MV.buf {ty es:Nat} {α:Type} {l:List α} {f:α→List Value}:MV (.buf ty es (l.map fun x=>(f x).map PVal.v)):=by
 rintro μ X Y m fp hw ⟨h1,h2,h3,h4⟩
 refine ⟨h1,h2,h3,?_⟩
 rcases h4 with h4 | ⟨b,arr,k1,k2,k3,k4,k5⟩
 ·exact .inl h4
 ·refine .inr ⟨b,arr,k1,k2,by rw [← hw];exact k3,k4,fun i row hr=>⟨(k5 i row hr).1,fun j p hp=>?_⟩⟩
  obtain ⟨c,hc,hh⟩:=(k5 i row hr).2 j p hp
  refine ⟨c,hc,?_⟩
  rw [List.getElem?_map] at hr
  cases hx:l[i]? with
  | none=>rw [hx] at hr;cases hr
  | some x=>
   rw [hx] at hr;simp at hr;subst hr
   rw [List.getElem?_map] at hp
   cases hy:(f x)[j]? with
   | none=>rw [hy] at hp;cases hp
   | some y=>rw [hy] at hp;simp at hp;subst hp;exact hh
theorem MO.holds.fp {μ:Mu} {X:Wd} {ty:TypeId} {cs:List AC} {m:Option Nat × Nat} {fp:List Nat} (h:(MO.box ty cs).holds μ X m fp):∃ b,m.1=some b∧fp=[b]:=by
 obtain ⟨b,arr,h1,h2,_⟩:=h;exact ⟨b,h1,h2⟩
theorem aws_sm {C:Ctx} {σ:St} {k:List Code} {c:Code} {Q:Exit→St→Prop} (e:List (Nat × AV)) (m:List (Nat × (Nat × Option MO))) (he:Knows σ.env e) (hm:Knows σ.mem m) (h:∀ ν:Nat→Nat,AWs C (c::k) Q ⟨ovl e fun _=>.un,ovl m fun o=>(ν o,none)⟩):AWs C (c::k) Q σ:=by
 intro a w ⟨G,hG⟩
 have ke:∀ (e:List (Nat × AV)),Knows σ.env e→∀ t,ovl e (fun _=>AV.un) t=σ.env t∨ovl e (fun _=>AV.un) t=.un:=by
  intro e he
  induction he with
  | nil=>exact fun t=>.inr rfl
  | cons hv hl ih=>
   intro t
   simp only [ovl]
   split
   ·rename_i ht;rw [ht];exact .inl hv.symm
   ·exact ih t
 have km:∀ (m:List (Nat × (Nat × Option MO))),Knows σ.mem m→∀ o,ovl m (fun o=>((σ.mem o).1,(none:Option MO))) o=σ.mem o∨ovl m (fun o=>((σ.mem o).1,(none:Option MO))) o=((σ.mem o).1,none):=by
  intro m hm
  induction hm with
  | nil=>exact fun t=>.inr rfl
  | cons hv hl ih=>
   intro t
   simp only [ovl]
   split
   ·rename_i ht;rw [ht];exact .inl hv.symm
   ·exact ih t
 refine h (fun o=>(σ.mem o).1) a w ⟨G,?_⟩
 exact {
  size:=hG.size
  defers:=hG.defers
  dnod:=hG.dnod
  mle:=hG.mle
  env:=fun t=>by
   show (ovl e (fun _=>AV.un) t).holds _ _ _
   rcases ke e he t with k|k<;>rw [k]
   ·exact hG.env t
   ·trivial
  gens:=fun o=>by
   show _=(ovl m (fun o=>((σ.mem o).1,(none:Option MO))) o).1
   rcases km m hm o with k|k<;>rw [k]
   ·exact hG.gens o
   ·exact hG.gens o
  mem:=fun o n mo ho=>by
   have ho:ovl m (fun o=>((σ.mem o).1,(none:Option MO))) o=(n,some mo):=ho
   rcases km m hm o with k|k<;>rw [k] at ho
   ·exact hG.mem o n mo ho
   ·simp at ho
  apart:=hG.apart
  stab:=hG.stab
  own:=hG.own
  sbd:=hG.sbd
  ssub:=hG.ssub
  fr:=hG.fr }
section ops
variable {C:Ctx} {o:Oper} {σ:St}
theorem lop_len_sb {T:TypeId} {x:Operand} {sz by_:Nat} {b:List Nat} (ho:o.op=.call ⟨.builtin .len,#[x],#[T]⟩) (hT:TI C.P T .string sz by_) (hx:σ.look x=.p (.v (.string (strOf b)))) (hd:dOk C o.dst=true) :
  LOp C o σ ⟨.p (.i b.length),[]⟩ (fun _=>false):=by
 have:=lop_len_str (hT:=hT) ho hx hd
 rwa [strOf_size] at this
theorem lop_ix_sb {T:TypeId} {x ix:Operand} {sz by_:Nat} {b:List Nat} {k:IntKind} {i:Int} (ho:o.op=.index T x ix) (hT:TI C.P T .string sz by_) (hx:σ.look x=.p (.v (.string (strOf b)))) (hb:okB b) (hi:σ.look ix=.p (.v (.int k i))) (h0:0≤i) (h1:i < b.length) (hd:dOk C o.dst=true) :
  LOp C o σ ⟨.p (.k .u8 (b.getD i.toNat default:Nat)),[]⟩ (fun _=>false):=
 lop_val hd fun τ a w G hl' hm' h=>by
  have e1:=val_of h ((hl' x (by simp [ho,Op.operands])).trans hx)
  have e2:=val_of h ((hl' ix (by simp [ho,Op.operands])).trans hi)
  obtain ⟨d,hdd,hkk⟩:=hT.undd
  have:d=.string:=by cases d<;>simp [TK.of] at hkk;rfl
  subst this
  have hlt:i.toNat < b.length:=by omega
  have hbd:0≤i∧i < ((strOf b).size:Int):=by rw [strOf_size];exact ⟨h0,h1⟩
  have hlt2:i.toNat < (strOf b).size:=by rw [strOf_size];exact hlt
  have hg:(strOf b)[i.toNat]=UInt8.ofNat b[i.toNat]:=by
   show ((b.map UInt8.ofNat).toArray)[i.toNat]'(by simpa using hlt)=_
   simp
  have hby:(((strOf b)[i.toNat]).toNat:Int)=((b.getD i.toNat default:Nat):Int):=by
   rw [hg,List.getD_eq_getElem?_getD,List.getElem?_eq_getElem hlt]
   have:=hb b[i.toNat] (List.getElem_mem _)
   simp;omega
  refine ⟨.int .u8 (((strOf b)[i.toNat]).toNat:Int),?_,by rw [hby],rfl⟩
  simp [execOp,ho,e1,e2,Instr.index,asIntOf,run_underlying hdd,h0,hlt2]
end ops
end Go.Aw
namespace Go.Aw.Sha
set_option linter.unusedVariables false
set_option linter.unusedSimpArgs false
abbrev M:Nat:=4294967296
def x32 (a b:Nat):Nat:=(a % M) ^^^ (b % M)
def a32 (a b:Nat):Nat:=a % M&&& b % M
def o32 (a b:Nat):Nat:=a % M||| b % M
def n32 (a:Nat):Nat:=(M - 1) ^^^ (a % M)
def rotr (x n:Nat):Nat:=x / 2 ^ n||| (x * 2 ^ (32 - n)) % M
structure V8 where
 a:Nat
 b:Nat
 c:Nat
 d:Nat
 e:Nat
 f:Nat
 g:Nat
 h:Nat
def V8.ok (v:V8):Prop:=v.a < M∧v.b < M∧v.c < M∧v.d < M∧v.e < M∧v.f < M∧v.g < M∧v.h < M
def V8.list (v:V8):List Nat:=[v.a,v.b,v.c,v.d,v.e,v.f,v.g,v.h]
def firstV:V8:=⟨1779033703,3144134277,1013904242,2773480762,1359893119,2600822924,528734635,1541459225⟩
def consts:List Nat:=[1116352408,1899447441,3049323471,3921009573,961987163,1508970993,2453635748,2870763221,3624381080,310598401,607225278,1426881987,1925078388,2162078206,2614888103,3248222580,3835390401,4022224774,264347078,604807628,770255983,1249150122,1555081692,1996064986,2554220882,2821834349,2952996808,3210313671,3336571891,3584528711,113926993,338241895,666307205,773529912,1294757372,1396182291,1695183700,1986661051,2177026350,2456956037,2730485921,2820302411,3259730800,3345764771,3516065817,3600352804,4094571909,275423344,430227734,506948616,659060556,883997877,958139571,1322822218,1537002063,1747873779,1955562222,2024104815,2227730452,2361852424,2428436474,2756734187,3204031479,3329325298]
def stepX (v:V8) (k w:Nat):Nat:=(((v.h+x32 (x32 (rotr v.e 6) (rotr v.e 11)) (rotr v.e 25)) % M+x32 (a32 v.e v.f) (a32 (n32 v.e) v.g)) % M+k) % M
def stepY (v:V8):Nat:=(x32 (x32 (rotr v.a 2) (rotr v.a 13)) (rotr v.a 22)+x32 (x32 (a32 v.a v.b) (a32 v.a v.c)) (a32 v.b v.c)) % M
def step (v:V8) (k w:Nat):V8:=⟨((stepX v k w+w) % M+stepY v) % M,v.a,v.b,v.c,(v.d+(stepX v k w+w) % M) % M,v.e,v.f,v.g⟩
def steps (w:List Nat):Nat→V8→V8
 | 0,v=>v
 | t+1,v=>step (steps w t v) (consts.getD t default) (w.getD t default)
def addV (s v:V8):V8:=⟨(s.a+v.a) % M,(s.b+v.b) % M,(s.c+v.c) % M,(s.d+v.d) % M,(s.e+v.e) % M,(s.f+v.f) % M,(s.g+v.g) % M,(s.h+v.h) % M⟩
def word4 (b:List Nat) (t:Nat):Nat:=o32 (o32 (o32 (((b.drop (4 * t)).getD 0 default % M * 2 ^ 24) % M) (((b.drop (4 * t)).getD 1 default % M * 2 ^ 16) % M)) (((b.drop (4 * t)).getD 2 default % M * 2 ^ 8) % M)) ((b.drop (4 * t)).getD 3 default % M)
def wordN (w:List Nat) (t:Nat):Nat:=(((w.getD (t - 16) default+x32 (x32 (rotr (w.getD (t - 15) default) 7) (rotr (w.getD (t - 15) default) 18)) (w.getD (t - 15) default / 2 ^ 3)) % M+w.getD (t - 7) default) % M
 + x32 (x32 (rotr (w.getD (t - 2) default) 17) (rotr (w.getD (t - 2) default) 19)) (w.getD (t - 2) default / 2 ^ 10)) % M
def spreadTo (b:List Nat):Nat→List Nat
 | 0=>List.replicate 64 0
 | t+1=>(spreadTo b t).set t (if t < 16 then word4 b t else wordN (spreadTo b t) t)
def block (s:V8) (b:List Nat):V8:=addV s (steps (spreadTo b 64) 64 s)
def digest (s:V8):List Nat:=(List.range 32).map fun i=>(s.list.getD (i / 4) default / 2 ^ (24 - 8 * (i % 4))) % 256
def digTo (s:V8):Nat→List Nat
 | 0=>List.replicate 32 0
 | m+1=>(digTo s m).set m ((s.list.getD (m / 4) default / 2 ^ (24 - 8 * (m % 4))) % 256)
theorem digTo_len (s:V8):∀ m,(digTo s m).length=32
 | 0=>by simp [digTo]
 | m+1=>by simp [digTo,digTo_len s m]
theorem digTo_get (s:V8):∀ m i (h:i < (digTo s m).length),(digTo s m)[i]=if i < m then (s.list.getD (i / 4) default / 2 ^ (24 - 8 * (i % 4))) % 256 else 0
 | 0,i,h=>by rw [if_neg (Nat.not_lt_zero _)];exact List.getElem_replicate (n:=32) (a:=0) _
 | m+1,i,h=>by
  simp only [digTo,List.getElem_set]
  by_cases e:m=i
  ·subst e;simp
  ·rw [if_neg e,digTo_get s m i (by simpa [digTo] using h)]
   by_cases h1:i < m
   ·rw [if_pos h1,if_pos (by omega)]
   ·rw [if_neg h1,if_neg (by omega)]
theorem digTo_all (s:V8):digTo s 32=digest s:=by
 apply List.ext_getElem
 ·rw [digTo_len];simp [digest]
 ·intro i h1 h2
  rw [digTo_get,if_pos (by rw [digTo_len] at h1;exact h1)]
  simp [digest]
def addTo (s v:V8):Nat→List Nat
 | 0=>s.list
 | i+1=>(addTo s v i).set i (((addTo s v i).getD i default+v.list.getD i default) % M)
theorem addTo_len (s v:V8):∀ i,(addTo s v i).length=8
 | 0=>rfl
 | i+1=>by simp [addTo,addTo_len s v i]
theorem addTo_all (s v:V8):addTo s v 8=(addV s v).list:=rfl
def zeros (n:Nat):Nat:=(119 - n % 64) % 64
def lenBytes (n:Nat):List Nat:=(List.range 8).map fun i=>((n * 8) % 18446744073709551616 / 2 ^ (8 * (7 - i))) % 256
def pad (b:List Nat):List Nat:=b++[128]++List.replicate (zeros b.length) 0++lenBytes b.length
def blocks (p:List Nat):Nat→V8
 | 0=>firstV
 | j+1=>block (blocks p j) ((p.drop (64 * j)).take 64)
def sum (b:List Nat):List Nat:=digest (blocks (pad b) ((pad b).length / 64))
theorem spreadTo_len (b:List Nat):∀ t,(spreadTo b t).length=64
 | 0=>by simp [spreadTo]
 | t+1=>by simp [spreadTo,spreadTo_len b t]
theorem digest_len (s:V8):(digest s).length=32:=by simp [digest]
theorem sum_len (b:List Nat):(sum b).length=32:=digest_len _
theorem lenBytes_len (n:Nat):(lenBytes n).length=8:=by simp [lenBytes]
theorem pad_len (b:List Nat):(pad b).length=b.length+1+zeros b.length+8:=by simp [pad,lenBytes_len];omega
theorem pad_64 (b:List Nat):(pad b).length % 64=0:=by rw [pad_len];unfold zeros;omega
theorem o32_lt (a b:Nat):o32 a b < M:=Nat.or_lt_two_pow (n:=32) (Nat.mod_lt _ (by decide)) (Nat.mod_lt _ (by decide))
theorem step_ok {v:V8} (h:v.ok) (k w:Nat):(step v k w).ok:=by
 obtain ⟨h1,h2,h3,h4,h5,h6,h7,h8⟩:=h
 exact ⟨Nat.mod_lt _ (by decide),h1,h2,h3,Nat.mod_lt _ (by decide),h5,h6,h7⟩
theorem firstV_ok:firstV.ok:=by unfold V8.ok firstV;decide
theorem steps_ok {v:V8} (h:v.ok) (w:List Nat):∀ t,(steps w t v).ok
 | 0=>h
 | t+1=>step_ok (steps_ok h w t) _ _
theorem addV_ok (s v:V8):(addV s v).ok:=⟨Nat.mod_lt _ (by decide),Nat.mod_lt _ (by decide),Nat.mod_lt _ (by decide),Nat.mod_lt _ (by decide),Nat.mod_lt _ (by decide),Nat.mod_lt _ (by decide),Nat.mod_lt _ (by decide),Nat.mod_lt _ (by decide)⟩
theorem blocks_ok (p:List Nat):∀ j,(blocks p j).ok
 | 0=>firstV_ok
 | j+1=>addV_ok _ _
theorem spreadTo_lt (b:List Nat):∀ t i,(spreadTo b t).getD i default < M
 | 0,i=>by
  simp only [spreadTo,List.getD_eq_getElem?_getD,List.getElem?_replicate]
  split<;>(show _ < 4294967296)<;>decide
 | t+1,i=>by
  have ih:=spreadTo_lt b t
  simp only [spreadTo,List.getD_eq_getElem?_getD,List.getElem?_set]
  split
  ·split
   ·rename_i h1 h2
    simp only [Option.getD_some]
    split
    ·exact o32_lt _ _
    ·exact Nat.mod_lt _ (by decide)
   ·show (0:Nat) < 4294967296;decide
  ·have:=ih i;rwa [List.getD_eq_getElem?_getD] at this
end Go.Aw.Sha
namespace Go.Proofs.YtpgppgehhclfoaaGreat.Sh
open Go Go.RowKit Go.Aw Go.Aw.Sha
set_option linter.unusedVariables false
set_option linter.unusedSimpArgs false
set_option maxRecDepth 4000
theorem and31 (z:Int):0≤bits .and .u64 z 31∧bits .and .u64 z 31≤31:=by
 have e:bits .and .u64 z 31=(((BitVec.ofInt 64 z).toNat&&& 31:Nat):Int):=by
  have h1:(BitVec.ofInt 64 z&&& BitVec.ofInt 64 31).toNat=(BitVec.ofInt 64 z).toNat&&& 31:=by simp [BitVec.toNat_and]
  have h2:((BitVec.ofInt 64 z).toNat&&& 31)≤31:=Nat.and_le_right
  show IntKind.u64.wrap ((BitVec.ofInt 64 z&&& BitVec.ofInt 64 31).toNat:Int)=_
  rw [h1,wrap_md rfl,Nat.mod_eq_of_lt]
  exact Nat.lt_of_le_of_lt h2 (by decide)
 have h2:((BitVec.ofInt 64 z).toNat&&& 31)≤31:=Nat.and_le_right
 omega
theorem rotl_c (x:Nat) (k:Int):PCall Tryz.prog 248 [.p (.k .u32 (x:Int)),.p (.i k)] (.p (.k .u32 ((o32 ((x * 2 ^ (bits .and .u64 (IntKind.u64.wrap k) 31).toNat) % M) (x / 2 ^ ((32:Int) - bits .and .u64 (IntKind.u64.wrap k) 31).toNat):Nat):Int))):=by
 refine pcall_of Tryz.func248 rfl (fun w0 F S0 M0=>?_)
 have h31:=and31 (IntKind.u64.wrap k)
 repeat' (first|refine jx9 ?_|refine jy0 ?_ ?_|exact spF|refine spQ fun hq hq'=>?_|refine spN fun hn=>?_|fail)
 all_goals exact rt1 rfl rfl finS_p rfl
instance {x:Nat} {k:Int}:PC Tryz.prog 248 [.p (.k .u32 (x:Int)),.p (.i k)] True (.p (.k .u32 ((o32 ((x * 2 ^ (bits .and .u64 (IntKind.u64.wrap k) 31).toNat) % M) (x / 2 ^ ((32:Int) - bits .and .u64 (IntKind.u64.wrap k) 31).toNat):Nat):Int))):=⟨fun _=>rotl_c x k⟩
theorem turn_of:∀ n:Nat,n < 32→1≤n→bits .and .u64 (IntKind.u64.wrap (IntKind.i64.wrap (0 - (n:Int)))) 31=32 - (n:Int):=by decide
theorem o32_rot {x n:Nat} (hx:x < M):o32 ((x * 2 ^ (32 - n)) % M) (x / 2 ^ n)=rotr x n:=by
 unfold o32 rotr
 rw [Nat.mod_mod,Nat.mod_eq_of_lt (a:=x / 2 ^ n) (Nat.lt_of_le_of_lt (Nat.div_le_self _ _) hx),Nat.or_comm]
theorem right_c (x n:Nat) (h:x < M∧1≤n∧n≤31):PCall Tryz.prog 238 [.p (.k .u32 (x:Int)),.p (.i (n:Int))] (.p (.k .u32 ((rotr x n:Nat):Int))):=by
 refine pcall_of Tryz.func238 rfl (fun w0 F S0 M0=>?_)
 repeat' (first|refine jx9 ?_|refine jy0 ?_ ?_|exact spF|refine spQ fun hq hq'=>?_|refine spN fun hn=>?_|fail)
 refine rt1 rfl rfl finS_p (ri ?_)
 have e:=turn_of n (by omega) h.2.1
 have e1:(bits .and .u64 (IntKind.u64.wrap (IntKind.i64.wrap (0 - (n:Int)))) 31).toNat=32 - n:=by rw [e];omega
 have e2:((32:Int) - bits .and .u64 (IntKind.u64.wrap (IntKind.i64.wrap (0 - (n:Int)))) 31).toNat=n:=by rw [e];omega
 rw [e1,e2,o32_rot h.1]
instance {x:Nat} {k:Int}:PC Tryz.prog 238 [.p (.k .u32 (x:Int)),.p (.i k)] (x < M∧1≤k∧k≤31) (.p (.k .u32 ((rotr x k.toNat:Nat):Int))):=⟨fun h=>by
 have:=right_c x k.toNat ⟨h.1,by omega,by omega⟩
 rwa [show ((k.toNat:Nat):Int)=k by omega] at this⟩
abbrev wc (n:Nat):AC:=.p (.k .u32 (n:Int))
abbrev v8 (v:V8):List AC:=[wc v.a,wc v.b,wc v.c,wc v.d,wc v.e,wc v.f,wc v.g,wc v.h]
theorem first_c:PCall Tryz.prog 227 [] (.a (v8 firstV)):=by
 refine pcall_of Tryz.func227 rfl (fun w0 F S0 M0=>?_)
 repeat' (first|refine jx9 ?_|refine jy0 ?_ ?_|exact spF|refine spQ fun hq hq'=>?_|refine spN fun hn=>?_|fail)
 all_goals exact rc1 rfl rfl rfl rfl rfl rfl finL_p rfl
instance:PC Tryz.prog 227 [] True (.a (v8 firstV)):=⟨fun _=>first_c⟩
theorem consts_c:PCall Tryz.prog 236 [] (.a (consts.map wc)):=by
 refine pcall_of Tryz.func236 rfl (fun w0 F S0 M0=>?_)
 repeat' (first|refine jx9 ?_|refine jy0 ?_ ?_|exact spF|refine spQ fun hq hq'=>?_|refine spN fun hn=>?_|fail)
 all_goals exact rc1 rfl rfl rfl rfl rfl rfl finL_p rfl
instance:PC Tryz.prog 236 [] True (.a (consts.map wc)):=⟨fun _=>consts_c⟩
end Go.Proofs.YtpgppgehhclfoaaGreat.Sh
namespace Go.Aw.Tree
open Go.Aw Go.Aw.Sha
set_option linter.unusedVariables false
set_option linter.unusedSimpArgs false
attribute [local irreducible] sum
def plc (p:Int):Bool:=decide (0≤p∧p < 21)
def upF (p:Int):Int:=if 1≤p∧p≤20 then (p - 1) / 4 else -1
def leafOf (p:Int):Int:=if 5≤p∧p < 21 then p - 5 else -1
def levelF (p:Int):Int:=if p=0 then 0 else if 1≤p∧p≤4 then 1 else if 5≤p∧p≤20 then 2 else -1
theorem upF_lt {p:Int} (h:plc p=true):(upF p+1).toNat < (p+1).toNat:=by
 have h1:0≤p∧p < 21:=of_decide_eq_true h
 unfold upF;split<;>omega
theorem levelF_up {p:Int} (h:plc p=true):levelF p=levelF (upF p)+1:=by
 have h1:0≤p∧p < 21:=of_decide_eq_true h
 unfold upF
 by_cases h2:1≤p∧p≤20
 ·rw [if_pos h2];unfold levelF
  repeat' split
  all_goals omega
 ·rw [if_neg h2];unfold levelF
  repeat' split
  all_goals omega
theorem levelF_in (p:Int) : -1≤levelF p∧levelF p≤2:=by
 unfold levelF
 repeat' split
 all_goals omega
theorem levelF_out {p:Int} (h:plc p=false):levelF p = -1:=by
 have h1:¬ (0≤p∧p < 21):=of_decide_eq_false h
 unfold levelF
 repeat' split
 all_goals omega
abbrev row (T:List Nat) (p:Nat):List Nat:=rowOf 32 T p
def belowTo (T:List Nat) (p:Int):Nat→List Nat
 | 0=>[1]
 | i+1=>belowTo T p i++row T (4 * p+1+i).toNat
def belowF (T:List Nat) (p:Int):List Nat:=if 0≤p∧p≤4 then belowTo T p 4 else []
def okTo (T:List Nat) (n:Nat):Prop:=∀ p,p < n→row T p=sum (belowF T p)
instance {T:List Nat} {n:Nat}:Decidable (okTo T n):=inferInstanceAs (Decidable (∀ p,p < n→row T p=sum (belowF T p)))
def rightF (T:List Nat):Bool:=decide (okTo T 5)
end Go.Aw.Tree
