/- Carts in plain Lean: how entries and dots stand to each other. Nothing here speaks of a program. // Carts in plain Lean: runs of equal things, sorted lists, insertion. Nothing here speaks of a program. // Carts in plain Lean: insertion, one by one, comes to the sorted list. Nothing here speaks of a program. -/
import Derived.Test.YtpgppgehhclfoaaGreatOBA05
namespace Go.Aw.Cart
set_option linter.unusedVariables false
set_option linter.unusedSimpArgs false
def cmpI (x y:Int):Int:=if x < y then -1 else if y < x then 1 else 0
def orF:List Int→Int
 | []=>0
 | x::l=>if x≠0 then x else orF l
def orFrom (l:List Int) (k:Nat):Nat→Int
 | 0=>0
 | n+1=>if l.getD k default≠0 then l.getD k default else orFrom l (k+1) n
theorem orFrom_is {l:List Int}:∀ (n k:Nat),k+n=l.length→orFrom l k n=orF (l.drop k)
 | 0,k,h=>by rw [List.drop_eq_nil_of_le (by omega)];rfl
 | n+1,k,h=>by
  have hk:k < l.length:=by omega
  have e:l.drop k=l.getD k default::l.drop (k+1):=by
   rw [List.getD_eq_getElem?_getD,List.getElem?_eq_getElem hk];exact List.drop_eq_getElem_cons hk
  rw [orFrom,e,orF,orFrom_is n (k+1) (by omega)]
theorem cmpI_lt {x y:Int}:cmpI x y < 0↔x < y:=by unfold cmpI;split<;>(try split)<;>omega
theorem cmpI_eq {x y:Int}:cmpI x y=0↔x=y:=by unfold cmpI;split<;>(try split)<;>omega
abbrev Ent:=Int × Int × Int × Int
abbrev Dot:=Int × Int
def ordE (a b:Ent):Int:=orF [cmpI a.1 b.1,cmpI a.2.1 b.2.1,cmpI a.2.2.1 b.2.2.1,cmpI a.2.2.2 b.2.2.2]
def ordD (a b:Dot):Int:=orF [cmpI a.1 b.1,cmpI a.2 b.2]
def ltE (a b:Ent):Prop:=a.1 < b.1∨a.1=b.1∧(a.2.1 < b.2.1∨a.2.1=b.2.1∧(a.2.2.1 < b.2.2.1∨a.2.2.1=b.2.2.1∧a.2.2.2 < b.2.2.2))
def ltD (a b:Dot):Prop:=a.1 < b.1∨a.1=b.1∧a.2 < b.2
theorem orF_cons {x:Int} {l:List Int}:orF (x::l) < 0↔x < 0∨x=0∧orF l < 0:=by
 rw [orF];split<;>omega
theorem ordE_lt {a b:Ent}:ordE a b < 0↔ltE a b:=by
 unfold ordE ltE
 rw [orF_cons,orF_cons,orF_cons,orF_cons,cmpI_lt,cmpI_lt,cmpI_lt,cmpI_lt,cmpI_eq,cmpI_eq,cmpI_eq,cmpI_eq]
 simp only [orF];omega
theorem ordD_lt {a b:Dot}:ordD a b < 0↔ltD a b:=by
 unfold ordD ltD
 rw [orF_cons,orF_cons,cmpI_lt,cmpI_lt,cmpI_eq,cmpI_eq]
 simp only [orF];omega
def cmpD (a b:Dot):Int:=if ordD a b < 0 then -1 else if ordD b a < 0 then 1 else 0
theorem cmpD_lt {a b:Dot}:cmpD a b < 0↔ltD a b:=by
 unfold cmpD;rw [← ordD_lt];split<;>(try split)<;>omega
end Go.Aw.Cart
namespace Go.Aw.Cart
set_option linter.unusedVariables false
set_option linter.unusedSimpArgs false
section comp
variable {α:Type} [DecidableEq α]
def compG (x:α):List α→List α
 | []=>[]
 | y::l=>if y=x then compG x l else y::compG y l
def comp:List α→List α
 | []=>[]
 | x::l=>x::compG x l
theorem compG_snoc (y:α):∀ (l:List α) (x:α),compG x (l++[y])=compG x l++(if y=(x::l).getLast (by simp) then [] else [y])
 | [],x=>by by_cases e:y=x<;>simp [compG,e]
 | z::l,x=>by
  have e:(x::z::l).getLast (by simp)=(z::l).getLast (by simp):=List.getLast_cons _
  simp only [List.cons_append,compG,e]
  by_cases h:z=x
  ·subst h
   rw [if_pos rfl,if_pos rfl,compG_snoc y l z]
  ·rw [if_neg h,if_neg h,compG_snoc y l z,List.cons_append]
theorem comp_snoc (l:List α) (y:α) (h:l≠[]):comp (l++[y])=comp l++(if y=l.getLast h then [] else [y]):=by
 cases l with
 | nil=>exact absurd rfl h
 | cons x l=>simp only [List.cons_append,comp,compG_snoc]
theorem comp_take [Inhabited α] {l:List α} {k:Nat} (h:k < l.length) (h1:1≤k):comp (l.take (k+1))=comp (l.take k)++(if l.getD k default=l.getD (k - 1) default then [] else [l.getD k default]):=by
 rw [List.take_succ_eq_append_getElem h,comp_snoc _ _ (by
  intro e
  have:=congrArg List.length e
  rw [List.length_take,List.length_nil] at this;omega)]
 have e1:l.getD k default=l[k]:=by rw [List.getD_eq_getElem?_getD,List.getElem?_eq_getElem h];rfl
 have e2:∀ hne,(l.take k).getLast hne=l.getD (k - 1) default:=fun hne=>by
  rw [List.getLast_eq_getElem,List.getD_eq_getElem?_getD,List.getElem?_eq_getElem (by omega:k - 1 < l.length),List.getElem_take]
  simp only [List.length_take,Option.getD_some]
  congr 1;omega
 rw [e1,e2]
theorem comp_one (l:List α):comp (l.take 1)=l.take 1:=by
 cases l with
 | nil=>rfl
 | cons x l=>rfl
theorem compG_len (l:List α):∀ x,(compG x l).length≤l.length:=by
 induction l with
 | nil=>intro x;exact Nat.le_refl _
 | cons y l ih=>
  intro x
  rw [compG]
  split
  ·exact Nat.le_succ_of_le (ih x)
  ·exact Nat.succ_le_succ (ih y)
theorem comp_len (l:List α):(comp l).length≤l.length:=by
 cases l with
 | nil=>exact Nat.le_refl _
 | cons x l=>exact Nat.succ_le_succ (compG_len l x)
theorem compG_up {lt:α→α→Prop} (ht:∀ x y,¬ lt y x→x=y∨lt x y):∀ {l:List α} {x:α},(x::l).Pairwise (fun a b=>¬ lt b a)→(∀ a b c,lt a b→lt b c→lt a c)→(x::compG x l).Pairwise lt
 | [],x,_,_=>List.pairwise_singleton _ _
 | y::l,x,h,tr=>by
  rw [compG]
  obtain ⟨h1,h2⟩:=List.pairwise_cons.1 h
  by_cases e:y=x
  ·rw [if_pos e]
   exact compG_up ht (List.pairwise_cons.2 ⟨fun a ha=>h1 a (List.mem_cons_of_mem _ ha),(List.pairwise_cons.1 h2).2⟩) tr
  ·rw [if_neg e]
   have ih:=compG_up ht h2 tr
   have hxy:lt x y:=by
    rcases ht x y (h1 y List.mem_cons_self) with rfl|h
    ·exact absurd rfl e
    ·exact h
   refine List.pairwise_cons.2 ⟨fun a ha=>?_,ih⟩
   rcases List.mem_cons.1 ha with rfl|ha
   ·exact hxy
   ·exact tr _ _ _ hxy ((List.pairwise_cons.1 ih).1 a ha)
theorem comp_up {lt:α→α→Prop} (ht:∀ x y,¬ lt y x→x=y∨lt x y) (tr:∀ a b c,lt a b→lt b c→lt a c) {l:List α} (h:l.Pairwise (fun a b=>¬ lt b a)):(comp l).Pairwise lt:=by
 cases l with
 | nil=>exact List.Pairwise.nil
 | cons x l=>exact compG_up ht h tr
theorem compG_id:∀ {l:List α} {x:α},(x::l).Pairwise (·≠·)→compG x l=l
 | [],x,_=>rfl
 | y::l,x,h=>by
  obtain ⟨h1,h2⟩:=List.pairwise_cons.1 h
  rw [compG,if_neg (fun e=>h1 y List.mem_cons_self e.symm),compG_id h2]
theorem comp_id {l:List α} (h:l.Pairwise (·≠·)):comp l=l:=by
 cases l with
 | nil=>rfl
 | cons x l=>rw [comp,compG_id h]
end comp
end Go.Aw.Cart
namespace Go.Aw.Ord
set_option linter.unusedVariables false
set_option linter.unusedSimpArgs false
section
variable {α:Type} (lt:α→α→Prop) [DecidableRel lt]
abbrev upI (l:List α):Prop:=l.Pairwise fun a b=>¬ lt b a
end
section
variable {α:Type} {lt:α→α→Prop} [DecidableRel lt]
end
open Go.Aw.Cart
theorem compG_sub {α:Type} [DecidableEq α]:∀ {l:List α} {x:α},(compG x l).Sublist l
 | [],x=>List.Sublist.refl _
 | y::l,x=>by
  unfold compG
  split
  ·exact List.Sublist.cons _ (@compG_sub _ _ l x)
  ·exact (@compG_sub _ _ l y).cons_cons _
theorem comp_sub {α:Type} [DecidableEq α] {l:List α}:(comp l).Sublist l:=by
 cases l with
 | nil=>exact List.Sublist.refl _
 | cons x l=>exact compG_sub.cons_cons _
end Go.Aw.Ord
namespace Go.Aw
open Go Go.RowKit
set_option linter.unusedVariables false
set_option linter.unusedSimpArgs false
instance (priority:=high) ptrIn_osl {c g es lo len:Nat} {l:List AV}:PtrIn (.s (.one (.osl c g es lo len))::l) c:=⟨trivial⟩
theorem lop_osl_eqnil {C:Ctx} {o:Oper} {σ:St} {t e t':TypeId} {x y:Operand} {sz by_ es ob g len:Nat} (ho:o.op=.binOp .eql t x y t') (hT:TI C.P t (.slice e) sz by_) (hx:σ.look x=.o (.osl ob g es 0 len)) (hm:∃ n ty rows,σ.mem ob=(n,some (.buf ty es rows))∧n=g+1) (hy:σ.look y=.p (.v (.slice none 0 0))) (hd:dOk C o.dst=true) :
  LOp C o σ ⟨.p (.qb (len=0)),[]⟩ (fun y=>y == ob):=
 lop_val hd fun τ a w G hl hm' h=>by
  obtain ⟨n,ty,rows,hmo,rfl⟩:=hm
  obtain ⟨m,c,p1,p2,p3⟩:=look_of h ((hl x (by simp [ho,Op.operands])).trans hx)
  have e2:=val_of h ((hl y (by simp [ho,Op.operands])).trans hy)
  obtain ⟨g',m',hg,hmm,hes,hmax,hrl,hh⟩:=h.mem ob _ _ (by rw [hm' ob (by simp)];exact hmo)
  obtain rfl:g=g':=by omega
  rw [p1] at hmm;obtain rfl:=Option.some.inj hmm
  simp only at hmax hrl hh
  obtain ⟨d,hdd,hk⟩:=hT.undd
  have:d=.slice e:=by cases d<;>simp [TK.of] at hk;rw [hk]
  subst this
  refine ⟨.bool (m.map fun b=>(⟨b,0 * es,none⟩:Addr)).isNone,?_,_,rfl,fun hb=>?_⟩
  ·have hgd:(eqGuard .eql t x y (.slice (m.map fun b=>(⟨b,0 * es,none⟩:Addr)) len (c - 0)) (.slice none 0 0)).run C.P w=.ok () w:=by
    unfold eqGuard;simp [pure]
   have hr:(binOp .eql t (.slice (m.map fun b=>(⟨b,0 * es,none⟩:Addr)) len (c - 0)) (.slice none 0 0)).run C.P w=.ok (.bool (m.map fun b=>(⟨b,0 * es,none⟩:Addr)).isNone) w:=
    Go.Lib.run_eql_slice_nil w t e _ len (c - 0) 0 0 hdd
   simp only [execOp,ho,p3,e2,Sem.run_bind,hgd,Result.andThen_ok,hr,Sem.run_pure]
  ·rcases hh with ⟨k1,k2,_⟩ | ⟨b,arr,k1,_⟩
   ·omega
   ·rw [k1] at hb;simp at hb
theorem lop_ap_exo {C:Ctx} {o:Oper} {σ:St} {α:Type} {f:α→List PVal} {l:List α} {T e ty:TypeId} {x y:Operand} {sz by_:Nat} {ke:TK} {es be:Nat} {z:List Value} {ob g n len:Nat} (ho:o.op=.call ⟨.builtin .append,#[x,y],#[T,T]⟩) (hT:TI C.P T (.slice e) sz by_) (he:TI C.P e ke es be) (hz:TZ C.P e z) (hx:σ.look x=.p (.sl es [] true)) (hy:σ.look y=.o (.osl ob g es 0 len)) (hm:σ.mem ob=(n,some (.buf ty es (l.map f)))) (hn:n=g+1)
  (hl:len=l.length) (hzl:z.length=es) (h63:l.length≤maxLen) (hby:l.length * be≤140737488355328) (hd:dOk C o.dst=true) :
  LOp C o σ ⟨.p (.sl es (l.map f) false),[]⟩ (fun y=>y == ob):=by
 have hs:=src_osl (C:=C) hy hm hn (by rw [hl];simp)
 have:=lop_append_ex (o:=o) (hT:=hT) (he:=he) (hz:=hz) ho hx hs hzl (by simp [hl];exact h63) (by simpa [hl] using hby) hd
 simpa [hl,List.take_of_length_le] using this
def rnL (c q d n:Nat):Rn:=fun k=>if k=1000 then some (c,none) else if k=q then some (d,some n) else none
theorem OCall.lf {P:Program} {f:FuncId} {args:List AV} {n:Nat} {mo:MO} {r:AV} {m1 mq:Nat × Option MO} {q:Nat} (h:OCall P f args (memL [(1000,(n,some mo))]) r (memL [(1000,m1),(q,mq)])) (hq:q≠1000) (c d nd:Nat) (hcd:c≠d) :
  OCAt P f (args.map (AV.ren (rnL c q d nd))) [(c,(n,some (mo.ren (rnL c q d nd))))] [(d,nd)] (r.ren (rnL c q d nd)) [(c,(m1.1,m1.2.map (MO.ren (rnL c q d nd)))),(d,(nd+mq.1,mq.2.map (MO.ren (rnL c q d nd))))]:=by
 have e1:rnL c q d nd 1000=some (c,none):=by simp [rnL]
 have e2:rnL c q d nd q=some (d,some nd):=by simp [rnL,hq]
 have e3:∀ k,k≠1000→k≠q→rnL c q d nd k=none:=fun k h1 h2=>by simp [rnL,h1,h2]
 refine ocat_of (rnL c q d nd) (fun x=>if x=c then some (1000,none) else if x=d then some (q,some nd) else none) h ?_ ?_ ?_ ?_ ?_ ?_
 ·intro k c' s
  by_cases hk:k=1000
  ·subst hk
   rw [e1]
   by_cases h1:c'=c
   ·subst h1;simp
   ·by_cases h2:c'=d
    ·subst h2;simp [h1,hq,Ne.symm hcd,hcd]
    ·simp [h1,h2,Ne.symm h1]
  ·by_cases hkq:k=q
   ·subst hkq
    rw [e2]
    by_cases h1:c'=c
    ·subst h1;simp [hq,Ne.symm hq,Ne.symm hcd]
    ·by_cases h2:c'=d
     ·subst h2;simp [h1]
     ·simp [h1,h2,Ne.symm h2]
   ·rw [e3 k hk hkq]
    by_cases h1:c'=c
    ·subst h1;simp [Ne.symm hk]
    ·by_cases h2:c'=d
     ·subst h2;simp [h1,Ne.symm hkq]
     ·simp [h1,h2]
 ·intro k c' hk
  by_cases h1:k=1000
  ·subst h1;rw [e1] at hk;simp at hk;subst hk;simp [memL]
  ·by_cases h2:k=q
   ·subst h2;rw [e2] at hk;simp at hk
   ·rw [e3 k h1 h2] at hk;cases hk
 ·intro k c' n' hk
  by_cases h1:k=1000
  ·subst h1;rw [e1] at hk;simp at hk
  ·by_cases h2:k=q
   ·subst h2;rw [e2] at hk;simp at hk;obtain ⟨rfl,rfl⟩:=hk;simp [memL,h1]
   ·rw [e3 k h1 h2] at hk;cases hk
 ·intro k hk
  have h1:k≠1000:=fun e=>by subst e;rw [e1] at hk;cases hk
  have h2:k≠q:=fun e=>by subst e;rw [e2] at hk;cases hk
  simp [memL,h1,h2]
 ·intro c' k s hc
  by_cases h1:c'=c
  ·subst h1
   simp at hc;obtain ⟨rfl,rfl⟩:=hc
   exact ⟨by simp [kIn],fun mem=>by simp [putsM,memL]⟩
  ·by_cases h2:c'=d
   ·subst h2
    simp [h1] at hc;obtain ⟨rfl,rfl⟩:=hc
    exact ⟨by simp [kIn],fun mem=>by simp [putsM,memL,h1,hq]⟩
   ·simp [h1,h2] at hc
 ·intro c' hc
  by_cases h1:c'=c
  ·simp [h1] at hc
  ·by_cases h2:c'=d
   ·rw [if_neg h1,if_pos h2] at hc;cases hc
   ·simp only [kIn,Bool.or_false,Bool.or_eq_false_iff]
    exact ⟨Bool.eq_false_iff.2 fun hb=>h1 (Nat.eq_of_beq_eq_true hb),Bool.eq_false_iff.2 fun hb=>h2 (Nat.eq_of_beq_eq_true hb)⟩
section ops
variable {C:Ctx} {o:Oper} {σ:St} {α:Type}
theorem lop_callv {f:FuncId} {x:Operand} {as:Array Operand} {ts:Array TypeId} {caps:List PVal} {args:List AV} {r:AV} (ho:o.op=.call ⟨.value x,as,ts⟩) (hfn:FnT C.P f) (hx:σ.look x=.p (.fnv f caps)) (ha:All2 (fun x a=>σ.look x=a) as.toList args) (hp:PureAVs args)
    (hc:PCall C.P f (args++caps.map .p) r) (hd:dOk C o.dst=true):LOp C o σ ⟨r,[]⟩ (fun _=>false):=by
  refine ⟨fun x m h=>by simp at h,fun τ hl hm a w ⟨G,h⟩ K Q hK=>?_⟩
  obtain ⟨vs,hev,hcaps⟩:=look_of h ((hl x (by rw [ho];simp [Op.operands,Call.operands])).trans hx)
  have hv:All2 (AV.holds Mu.none ⟨w,G.S⟩) (args++caps.map .p) (as.toList.map a.eval++vs):=by
    refine All2.append ⟨by simp [← ha.1],fun i av v hav hvv=>?_⟩ ⟨by simpa using hcaps.1,fun i av v hav hvv=>?_⟩
    · rw [List.getElem?_map] at hvv
      cases hx':as.toList[i]? with
      | none=>rw [hx'] at hvv;cases hvv
      | some y=>
        rw [hx'] at hvv;simp at hvv;subst hvv
        have h1:=ha.2 i y av hx' hav
        have h2:=h.look y
        rw [hl y (by rw [ho];simp [Op.operands,Call.operands];right;simpa using List.mem_of_getElem? hx'),h1] at h2
        exact hp.pure.2 i av av hav hav _ _ _ h2
    · rw [List.getElem?_map] at hav
      cases hq:caps[i]? with
      | none=>rw [hq] at hav;cases hav
      | some q=>rw [hq] at hav;simp at hav;subst hav;exact hcaps.2 i q v hq hvv
  obtain ⟨fn,h1,h2,h3⟩:=hfn.fn
  have hname : ¬ fn.name = "runtime.NumGoroutine" := by simpa using h2
  have hrun:(execOp a.eval o).run C.P w=.ok (.enter f (as.map a.eval++vs.toArray)) w:=by
    cases hbody:fn.body with
    | none=>simp [hbody] at h3
    | some c=>simp [execOp,ho,resolve,hev,Deferred.ofValue,invoke,callFunc,program,Sem.run,Sem.run_bind,h1,hbody,pure,hname]
  refine wpIn_exec (by rw [ho];intro c h;cases h) ?_
  rw [hrun,Oper.uponIn_enter]
  have h9:=calls_frame h hc hv (d:=o.dst) hd (K:=K) (Q:=Q) hK
  have e:(as.toList.map a.eval++vs).toArray=as.map a.eval++vs.toArray:=by apply Array.toList_inj.1;simp
  rw [e] at h9
  exact ⟨by simp [fz,Fence.wide],(callsIn_wide (n:=0)).2 h9⟩
theorem lop_callv1 {f:FuncId} {x x0:Operand} {ts:Array TypeId} {caps:List PVal} {a0 r:AV} {pre:Prop} (ho:o.op=.call ⟨.value x,#[x0],ts⟩) (hx:σ.look x=.p (.fnv f caps)) (hfn:FnT C.P f) (h0:σ.look x0=a0) (hp:PureAVs [a0]) (hc:PC C.P f ([a0]++caps.map .p) pre r) (hpre:pre) (hd:dOk C o.dst=true):LOp C o σ ⟨r,[]⟩ (fun _=>false):=
  lop_callv ho hfn hx (.cons h0 .nil) hp (hc.call hpre) hd
end ops
end Go.Aw
namespace Go.Aw
open Go Go.RowKit
set_option linter.unusedVariables false
set_option linter.unusedSimpArgs false
theorem RelG.drop {C:Ctx} {σ:St} {a:Act} {w:World} {G:Gh} (h:RelG C σ a w G) {o n:Nat} {mo:Option MO} (hm:σ.mem o=(n,mo)) :
  RelG C (σ.put o (n,none)) a w ⟨G.μ,G.S,fun x=>if x=o then [] else G.φ x⟩ where
 size:=h.size
 defers:=fun d hd=>by
  obtain ⟨b,rfl,h1,h2,h3,h4,h5⟩:=h.defers d hd
  refine ⟨b,rfl,h1,h2,h3,h4,fun x hx=>?_⟩
  by_cases e:x=o<;>simp only [e,if_true,if_false] at hx
  ·cases hx
  ·exact h5 x hx
 dnod:=h.dnod
 mle:=h.mle
 env:=h.env
 gens:=fun x=>by
  by_cases e:x=o
  ·subst e;have:=h.gens x;rw [hm] at this;simpa [St.put] using this
  ·simpa [St.put,e] using h.gens x
 mem:=fun x n' mo' hx=>by
  by_cases e:x=o
  ·subst e;simp [St.put] at hx
  ·simp only [St.put,e,if_false] at hx
   obtain ⟨g,m,k1,k2,k3⟩:=h.mem x n' mo' hx
   exact ⟨g,m,k1,k2,by simpa [e] using k3⟩
 apart:=fun x y b hne h1 h2=>by
  by_cases e1:x=o<;>by_cases e2:y=o<;>simp [e1,e2] at h1 h2
  exact h.apart x y b hne h1 h2
 stab:=fun x b hb=>by
  by_cases e:x=o<;>simp [e] at hb
  exact h.stab x b hb
 own:=fun x b hb=>by
  by_cases e:x=o<;>simp [e] at hb
  exact h.own x b hb
 sbd:=h.sbd
 ssub:=h.ssub
 fr:=h.fr
section funcs
variable {C:Ctx} {o:Oper} {σ:St}
end funcs
end Go.Aw
