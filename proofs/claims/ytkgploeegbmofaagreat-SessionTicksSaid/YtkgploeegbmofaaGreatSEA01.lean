/- THE ABSTRACT WALK, part 26: own slices that are lent; a call that is lent one object and makes another. Nothing here speaks of a program. -/
import Derived.Test.YtkgploeegbmofaaGreatSEA43
namespace Go.Aw
open Go Go.RowKit
set_option linter.unusedVariables false
set_option linter.unusedSimpArgs false
instance (priority:=high) ptrIn_osl {c g es lo len:Nat} {l:List AV}:PtrIn (.s (.one (.osl c g es lo len))::l) c:=⟨trivial⟩
theorem lop_osl_eqnil {C:Ctx} {o:Oper} {σ:St} {t e t':TypeId} {x y:Operand} {sz by_ es ob g len:Nat} (ho:o.op=.binOp .eql t x y t') (hT:TI C.P t (.slice e) sz by_) (hx:σ.look x=.o (.osl ob g es 0 len)) (hm:∃ n ty rows,σ.mem ob=(n,some (.buf ty es rows))∧n=g+1) (hy:σ.look y=.p (.v (.slice none 0 0))) (hd:dOk C o.dst=true) :
  LOp C o σ ⟨.p (.qb (len=0)),[]⟩ (fun y=>y == ob):=
 lop_val hd fun τ a w G hl hm' h=>by
  obtain ⟨n,ty,rows,hmo,rfl⟩:=hm
  obtain ⟨m,c,p1,p2,p3⟩:=look_of h ((hl x (by simp [ho,Op.operands])).trans hx)
  have e2:=val_of h ((hl y (by simp [ho,Op.operands])).trans hy)
  obtain ⟨g',m',hg,hmm,hes,hmax,hrl,hh⟩:=h.mem ob _ _ (by rw [hm' ob (by simp)];exact hmo)
  obtain rfl:g=g':=by omega
  rw [p1] at hmm;obtain rfl:=Option.some.inj hmm
  simp only at hmax hrl hh
  obtain ⟨d,hdd,hk⟩:=hT.undd
  have:d=.slice e:=by cases d<;>simp [TK.of] at hk;rw [hk]
  subst this
  refine ⟨.bool (m.map fun b=>(⟨b,0 * es,none⟩:Addr)).isNone,?_,_,rfl,fun hb=>?_⟩
  ·have hgd:(eqGuard .eql t x y (.slice (m.map fun b=>(⟨b,0 * es,none⟩:Addr)) len (c - 0)) (.slice none 0 0)).run C.P w=.ok () w:=by
    unfold eqGuard;simp [pure]
   have hr:(binOp .eql t (.slice (m.map fun b=>(⟨b,0 * es,none⟩:Addr)) len (c - 0)) (.slice none 0 0)).run C.P w=.ok (.bool (m.map fun b=>(⟨b,0 * es,none⟩:Addr)).isNone) w:=
    Go.Lib.run_eql_slice_nil w t e _ len (c - 0) 0 0 hdd
   simp only [execOp,ho,p3,e2,Sem.run_bind,hgd,Result.andThen_ok,hr,Sem.run_pure]
  ·rcases hh with ⟨k1,k2,_⟩ | ⟨b,arr,k1,_⟩
   ·omega
   ·rw [k1] at hb;simp at hb
theorem lop_ap_exo {C:Ctx} {o:Oper} {σ:St} {α:Type} {f:α→List PVal} {l:List α} {T e ty:TypeId} {x y:Operand} {sz by_:Nat} {ke:TK} {es be:Nat} {z:List Value} {ob g n len:Nat} (ho:o.op=.call ⟨.builtin .append,#[x,y],#[T,T]⟩) (hT:TI C.P T (.slice e) sz by_) (he:TI C.P e ke es be) (hz:TZ C.P e z) (hx:σ.look x=.p (.sl es [] true)) (hy:σ.look y=.o (.osl ob g es 0 len)) (hm:σ.mem ob=(n,some (.buf ty es (l.map f)))) (hn:n=g+1)
  (hl:len=l.length) (hzl:z.length=es) (h63:l.length≤maxLen) (hby:l.length * be≤140737488355328) (hd:dOk C o.dst=true) :
  LOp C o σ ⟨.p (.sl es (l.map f) false),[]⟩ (fun y=>y == ob):=by
 have hs:=src_osl (C:=C) hy hm hn (by rw [hl];simp)
 have:=lop_append_ex (o:=o) (hT:=hT) (he:=he) (hz:=hz) ho hx hs hzl (by simp [hl];exact h63) (by simpa [hl] using hby) hd
 simpa [hl,List.take_of_length_le] using this
section ops
variable {C:Ctx} {o:Oper} {σ:St} {α:Type}
theorem lop_callv {f:FuncId} {x:Operand} {as:Array Operand} {ts:Array TypeId} {caps:List PVal} {args:List AV} {r:AV} (ho:o.op=.call ⟨.value x,as,ts⟩) (hfn:FnT C.P f) (hx:σ.look x=.p (.fnv f caps)) (ha:All2 (fun x a=>σ.look x=a) as.toList args) (hp:PureAVs args)
    (hc:PCall C.P f (args++caps.map .p) r) (hd:dOk C o.dst=true):LOp C o σ ⟨r,[]⟩ (fun _=>false):=by
  refine ⟨fun x m h=>by simp at h,fun τ hl hm a w ⟨G,h⟩ K Q hK=>?_⟩
  obtain ⟨vs,hev,hcaps⟩:=look_of h ((hl x (by rw [ho];simp [Op.operands,Call.operands])).trans hx)
  have hv:All2 (AV.holds Mu.none ⟨w,G.S⟩) (args++caps.map .p) (as.toList.map a.eval++vs):=by
    refine All2.append ⟨by simp [← ha.1],fun i av v hav hvv=>?_⟩ ⟨by simpa using hcaps.1,fun i av v hav hvv=>?_⟩
    · rw [List.getElem?_map] at hvv
      cases hx':as.toList[i]? with
      | none=>rw [hx'] at hvv;cases hvv
      | some y=>
        rw [hx'] at hvv;simp at hvv;subst hvv
        have h1:=ha.2 i y av hx' hav
        have h2:=h.look y
        rw [hl y (by rw [ho];simp [Op.operands,Call.operands];right;simpa using List.mem_of_getElem? hx'),h1] at h2
        exact hp.pure.2 i av av hav hav _ _ _ h2
    · rw [List.getElem?_map] at hav
      cases hq:caps[i]? with
      | none=>rw [hq] at hav;cases hav
      | some q=>rw [hq] at hav;simp at hav;subst hav;exact hcaps.2 i q v hq hvv
  obtain ⟨fn,h1,h2,h3⟩:=hfn.fn
  have hname : ¬ fn.name = "runtime.NumGoroutine" := by simpa using h2
  have hrun:(execOp a.eval o).run C.P w=.ok (.enter f (as.map a.eval++vs.toArray)) w:=by
    cases hbody:fn.body with
    | none=>simp [hbody] at h3
    | some c=>simp [execOp,ho,resolve,hev,Deferred.ofValue,invoke,callFunc,program,Sem.run,Sem.run_bind,h1,hbody,pure,hname]
  refine wpIn_exec (by rw [ho];intro c h;cases h) ?_
  rw [hrun,Oper.uponIn_enter]
  have h9:=calls_frame h hc hv (d:=o.dst) hd (K:=K) (Q:=Q) hK
  have e:(as.toList.map a.eval++vs).toArray=as.map a.eval++vs.toArray:=by apply Array.toList_inj.1;simp
  rw [e] at h9
  exact ⟨by simp [fz,Fence.wide],(callsIn_wide (n:=0)).2 h9⟩
theorem lop_callv1 {f:FuncId} {x x0:Operand} {ts:Array TypeId} {caps:List PVal} {a0 r:AV} {pre:Prop} (ho:o.op=.call ⟨.value x,#[x0],ts⟩) (hx:σ.look x=.p (.fnv f caps)) (hfn:FnT C.P f) (h0:σ.look x0=a0) (hp:PureAVs [a0]) (hc:PC C.P f ([a0]++caps.map .p) pre r) (hpre:pre) (hd:dOk C o.dst=true):LOp C o σ ⟨r,[]⟩ (fun _=>false):=
  lop_callv ho hfn hx (.cons h0 .nil) hp (hc.call hpre) hd
theorem lop_bsr1 {q:α→PVal} {l:List α} {T e:TypeId} {x0:Operand} {sz by_ es be:Nat} {ke:TK} {z:List Value} (ho:o.op=.buildSlice T 1 #[(0,x0)]) (hT:TI C.P T (.slice e) sz by_) (he:TI C.P e ke es be) (hz:TZ C.P e z) (h0:σ.look x0=.a (l.map fun a=>.p (q a))) (hl:l.length=es) (hes:0 < es) (hsm:es≤2 ^ 24) (hd:dOk C o.dst=true) :
    LOp C o σ ⟨.p (.sl es [l.map q] true),[]⟩ (fun _=>false):=
  lop_buildSlice (ps:=[(0,l.map q)]) ho (.cons ⟨rfl,by simp [hl],_,h0,by simp [SV.cells,List.map_map,Function.comp_def]⟩ .nil) rfl hes (by omega) hd
end ops
theorem lopZ {C:Ctx} {o:Oper} {σ:St} {e:Eff} {ro:Nat→Bool} (h:LOp C o σ e ro:=by
    first|(apply lop_bsr1;(focus rfl);(focus exact inferInstance);(focus exact inferInstance);(focus exact inferInstance);(focus rfl);(focus first|assumption|omega|(exact rowOf_len (by omega))|(simp only [List.length_map];omega)|(simp [*];done));(focus decide);(focus decide);(focus rfl))|(apply lop_ld_bxr;(focus rfl);(focus exact inferInstance);(focus rfl);(focus rfl);(focus first|assumption|omega|(exact rowOf_len (by omega))|(simp only [List.length_map];omega)|(simp [*];done));(focus rfl))|(apply lop_ld_bxw;(focus rfl);(focus exact inferInstance);(focus rfl);(focus rfl);(focus first|assumption|omega|(exact rowOf_len (by omega))|(simp only [List.length_map];omega)|(simp [*];done));(focus rfl))|(apply lop_ld_bx1;(focus rfl);(focus exact inferInstance);(focus rfl);(focus exact inferInstance);(focus rfl);(focus rfl);(focus first|assumption|omega|(exact rowOf_len (by omega))|(simp only [List.length_map];omega)|(simp [*];done));(focus rfl);(focus rfl))|exact lopB|fail):LOp C o σ e ro:=h
section steps
variable {C:Ctx} {ops:Array Oper} {o:Oper} {rest:List Oper} {K:St→Prop} {σ:St} {e:Eff} {ro:Nat→Bool} {W:List (Nat × Nat)} {i:Nat}
theorem rnZ {d:Nat} (hg:Guard ops σ o true:=by first|exact gd_n rfl rfl|exact gd_t rfl rfl rfl rfl|exact gd_t rfl rfl rfl (by assumption)) (hd:o.dst=some d:=by rfl) (h:LOp C o σ e ro:=by exact lopZ) (hk:RunN C ops rest K (e.app (some d) σ)):RunN C ops (o::rest) K σ:=rn_any hg hd h hk
theorem rkZ {d:Nat} (hg:Guard ops σ o true:=by first|exact gd_n rfl rfl|exact gd_t rfl rfl rfl rfl|exact gd_t rfl rfl rfl (by assumption)) (hd':o.dst=some d:=by rfl) (hd:dOk C o.dst=true:=by rfl) (h:LOp C o σ e ro:=by exact lopZ) (hro:∀ x,ro x=true→okObj ops W i x=true:=by first|exact fun _=>ro_none|exact ro_one rfl|exact ro_one (by kernel_rfl)|exact ro_kIn (by decide)) (hob:∀ p∈e.obj,(i,p.1)∈W:=by first|exact ob_none|exact ob_one (by decide)|decide) (hk:RunK C ops W (i+1) rest K (e.app (some d) σ)):RunK C ops W i (o::rest) K σ:=rk_wr hg hd' hd h hro hob hk
end steps
theorem rt3 {P:Program} {fn:Func} {r:AV} {σ:St} {t0 t1 t2:Nat} {s0 s1 s2 u0 u1 u2:SV} (hf:fn.results.toList=[.tmp t0,.tmp t1,.tmp t2]) (h0:σ.env t0=.s s0) (f0:FinS σ kNone s0 u0) (h1:σ.env t1=.s s1) (f1:FinS σ kNone s1 u1) (h2:σ.env t2=.s s2) (f2:FinS σ kNone s2 u2) (hr:r=.tup [u0,u1,u2]):Ret P fn r .ret σ:=
  Ret.of ⟨[u0,u1,u2],hr,by rw [hf];exact .cons (.tmp h0 f0) (.cons (.tmp h1 f1) (.cons (.tmp h2 f2) .nil))⟩
theorem aws_scopeM {ι:Type} {C:Ctx} {Q:Exit→St→Prop} {σ:St} {c y:Code} {k:List Code} (l:Nat) (W M:List Nat) (e:ι→List (Nat × AV)) (m:ι→List (Nat × (Nat × Option MO))) (P:ι→Prop) (μ:ι→Nat) (hf:findLabel c l=some (.seq .skip y))
    (pass:∀ i β γ,P i→AWs C [y] (fun x s'=>match x with | .goto l'=>l'=l∧∃ j τ,μ j < μ i∧P j∧Says C s' τ∧Fr' σ W (e j) M (m j) τ | .normal=>AWs C k Q s'|x=>Q x s') (σ.fr W β (e i) M γ (m i)))
    (first:(∀ i s,P i→Fr' σ W (e i) M (m i) s→AWs C [y] (fun x s'=>match x with | .goto l'=>l'=l∧∃ j τ,P j∧Says C s' τ∧Fr' σ W (e j) M (m j) τ | .normal=>AWs C k Q s'|x=>Q x s') s)→
      AWs C [c] (fun x s'=>match x with | .goto l'=>l'=l∧∃ j τ,P j∧Says C s' τ∧Fr' σ W (e j) M (m j) τ | .normal=>AWs C k Q s'|x=>Q x s') σ):AWs C (.scope c::k) Q σ:=aws_scopeS l σ W M e m P μ hf pass first
end Go.Aw
namespace Go.Aw
open Go Go.RowKit
set_option linter.unusedVariables false
set_option linter.unusedSimpArgs false
theorem RelG.drop {C:Ctx} {σ:St} {a:Act} {w:World} {G:Gh} (h:RelG C σ a w G) {o n:Nat} {mo:Option MO} (hm:σ.mem o=(n,mo)) :
  RelG C (σ.put o (n,none)) a w ⟨G.μ,G.S,fun x=>if x=o then [] else G.φ x⟩ where
 size:=h.size
 defers:=fun d hd=>by
  obtain ⟨b,rfl,h1,h2,h3,h4,h5⟩:=h.defers d hd
  refine ⟨b,rfl,h1,h2,h3,h4,fun x hx=>?_⟩
  by_cases e:x=o<;>simp only [e,if_true,if_false] at hx
  ·cases hx
  ·exact h5 x hx
 dnod:=h.dnod
 mle:=h.mle
 env:=h.env
 gens:=fun x=>by
  by_cases e:x=o
  ·subst e;have:=h.gens x;rw [hm] at this;simpa [St.put] using this
  ·simpa [St.put,e] using h.gens x
 mem:=fun x n' mo' hx=>by
  by_cases e:x=o
  ·subst e;simp [St.put] at hx
  ·simp only [St.put,e,if_false] at hx
   obtain ⟨g,m,k1,k2,k3⟩:=h.mem x n' mo' hx
   exact ⟨g,m,k1,k2,by simpa [e] using k3⟩
 apart:=fun x y b hne h1 h2=>by
  by_cases e1:x=o<;>by_cases e2:y=o<;>simp [e1,e2] at h1 h2
  exact h.apart x y b hne h1 h2
 stab:=fun x b hb=>by
  by_cases e:x=o<;>simp [e] at hb
  exact h.stab x b hb
 own:=fun x b hb=>by
  by_cases e:x=o<;>simp [e] at hb
  exact h.own x b hb
 sbd:=h.sbd
 ssub:=h.ssub
 fr:=h.fr
section funcs
variable {C:Ctx} {o:Oper} {σ:St}
end funcs
end Go.Aw
namespace Go.Aw.Cart
set_option linter.unusedVariables false
set_option linter.unusedSimpArgs false
def cmpI (x y:Int):Int:=if x < y then -1 else if y < x then 1 else 0
def orF:List Int→Int
 | []=>0
 | x::l=>if x≠0 then x else orF l
def orFrom (l:List Int) (k:Nat):Nat→Int
 | 0=>0
 | n+1=>if l.getD k default≠0 then l.getD k default else orFrom l (k+1) n
theorem orFrom_is {l:List Int}:∀ (n k:Nat),k+n=l.length→orFrom l k n=orF (l.drop k)
 | 0,k,h=>by rw [List.drop_eq_nil_of_le (by omega)];rfl
 | n+1,k,h=>by
  have hk:k < l.length:=by omega
  have e:l.drop k=l.getD k default::l.drop (k+1):=by
   rw [List.getD_eq_getElem?_getD,List.getElem?_eq_getElem hk];exact List.drop_eq_getElem_cons hk
  rw [orFrom,e,orF,orFrom_is n (k+1) (by omega)]
theorem cmpI_lt {x y:Int}:cmpI x y < 0↔x < y:=by unfold cmpI;split<;>(try split)<;>omega
theorem cmpI_eq {x y:Int}:cmpI x y=0↔x=y:=by unfold cmpI;split<;>(try split)<;>omega
abbrev Ent:=Int × Int × Int × Int
abbrev Dot:=Int × Int
def ordE (a b:Ent):Int:=orF [cmpI a.1 b.1,cmpI a.2.1 b.2.1,cmpI a.2.2.1 b.2.2.1,cmpI a.2.2.2 b.2.2.2]
def ordD (a b:Dot):Int:=orF [cmpI a.1 b.1,cmpI a.2 b.2]
def ltE (a b:Ent):Prop:=a.1 < b.1∨a.1=b.1∧(a.2.1 < b.2.1∨a.2.1=b.2.1∧(a.2.2.1 < b.2.2.1∨a.2.2.1=b.2.2.1∧a.2.2.2 < b.2.2.2))
def ltD (a b:Dot):Prop:=a.1 < b.1∨a.1=b.1∧a.2 < b.2
theorem orF_cons {x:Int} {l:List Int}:orF (x::l) < 0↔x < 0∨x=0∧orF l < 0:=by
 rw [orF];split<;>omega
theorem ordE_lt {a b:Ent}:ordE a b < 0↔ltE a b:=by
 unfold ordE ltE
 rw [orF_cons,orF_cons,orF_cons,orF_cons,cmpI_lt,cmpI_lt,cmpI_lt,cmpI_lt,cmpI_eq,cmpI_eq,cmpI_eq,cmpI_eq]
 simp only [orF];omega
theorem ordD_lt {a b:Dot}:ordD a b < 0↔ltD a b:=by
 unfold ordD ltD
 rw [orF_cons,orF_cons,cmpI_lt,cmpI_lt,cmpI_eq,cmpI_eq]
 simp only [orF];omega
def cmpD (a b:Dot):Int:=if ordD a b < 0 then -1 else if ordD b a < 0 then 1 else 0
theorem cmpD_lt {a b:Dot}:cmpD a b < 0↔ltD a b:=by
 unfold cmpD;rw [← ordD_lt];split<;>(try split)<;>omega
end Go.Aw.Cart
namespace Go.Aw.Cart
set_option linter.unusedVariables false
set_option linter.unusedSimpArgs false
section comp
variable {α:Type} [DecidableEq α]
def compG (x:α):List α→List α
 | []=>[]
 | y::l=>if y=x then compG x l else y::compG y l
def comp:List α→List α
 | []=>[]
 | x::l=>x::compG x l
theorem compG_snoc (y:α):∀ (l:List α) (x:α),compG x (l++[y])=compG x l++(if y=(x::l).getLast (by simp) then [] else [y])
 | [],x=>by by_cases e:y=x<;>simp [compG,e]
 | z::l,x=>by
  have e:(x::z::l).getLast (by simp)=(z::l).getLast (by simp):=List.getLast_cons _
  simp only [List.cons_append,compG,e]
  by_cases h:z=x
  ·subst h
   rw [if_pos rfl,if_pos rfl,compG_snoc y l z]
  ·rw [if_neg h,if_neg h,compG_snoc y l z,List.cons_append]
theorem comp_snoc (l:List α) (y:α) (h:l≠[]):comp (l++[y])=comp l++(if y=l.getLast h then [] else [y]):=by
 cases l with
 | nil=>exact absurd rfl h
 | cons x l=>simp only [List.cons_append,comp,compG_snoc]
theorem comp_take [Inhabited α] {l:List α} {k:Nat} (h:k < l.length) (h1:1≤k):comp (l.take (k+1))=comp (l.take k)++(if l.getD k default=l.getD (k - 1) default then [] else [l.getD k default]):=by
 rw [List.take_succ_eq_append_getElem h,comp_snoc _ _ (by
  intro e
  have:=congrArg List.length e
  rw [List.length_take,List.length_nil] at this;omega)]
 have e1:l.getD k default=l[k]:=by rw [List.getD_eq_getElem?_getD,List.getElem?_eq_getElem h];rfl
 have e2:∀ hne,(l.take k).getLast hne=l.getD (k - 1) default:=fun hne=>by
  rw [List.getLast_eq_getElem,List.getD_eq_getElem?_getD,List.getElem?_eq_getElem (by omega:k - 1 < l.length),List.getElem_take]
  simp only [List.length_take,Option.getD_some]
  congr 1;omega
 rw [e1,e2]
theorem comp_one (l:List α):comp (l.take 1)=l.take 1:=by
 cases l with
 | nil=>rfl
 | cons x l=>rfl
theorem compG_len (l:List α):∀ x,(compG x l).length≤l.length:=by
 induction l with
 | nil=>intro x;exact Nat.le_refl _
 | cons y l ih=>
  intro x
  rw [compG]
  split
  ·exact Nat.le_succ_of_le (ih x)
  ·exact Nat.succ_le_succ (ih y)
theorem comp_len (l:List α):(comp l).length≤l.length:=by
 cases l with
 | nil=>exact Nat.le_refl _
 | cons x l=>exact Nat.succ_le_succ (compG_len l x)
theorem compG_up {lt:α→α→Prop} (ht:∀ x y,¬ lt y x→x=y∨lt x y):∀ {l:List α} {x:α},(x::l).Pairwise (fun a b=>¬ lt b a)→(∀ a b c,lt a b→lt b c→lt a c)→(x::compG x l).Pairwise lt
 | [],x,_,_=>List.pairwise_singleton _ _
 | y::l,x,h,tr=>by
  rw [compG]
  obtain ⟨h1,h2⟩:=List.pairwise_cons.1 h
  by_cases e:y=x
  ·rw [if_pos e]
   exact compG_up ht (List.pairwise_cons.2 ⟨fun a ha=>h1 a (List.mem_cons_of_mem _ ha),(List.pairwise_cons.1 h2).2⟩) tr
  ·rw [if_neg e]
   have ih:=compG_up ht h2 tr
   have hxy:lt x y:=by
    rcases ht x y (h1 y List.mem_cons_self) with rfl|h
    ·exact absurd rfl e
    ·exact h
   refine List.pairwise_cons.2 ⟨fun a ha=>?_,ih⟩
   rcases List.mem_cons.1 ha with rfl|ha
   ·exact hxy
   ·exact tr _ _ _ hxy ((List.pairwise_cons.1 ih).1 a ha)
theorem comp_up {lt:α→α→Prop} (ht:∀ x y,¬ lt y x→x=y∨lt x y) (tr:∀ a b c,lt a b→lt b c→lt a c) {l:List α} (h:l.Pairwise (fun a b=>¬ lt b a)):(comp l).Pairwise lt:=by
 cases l with
 | nil=>exact List.Pairwise.nil
 | cons x l=>exact compG_up ht h tr
theorem compG_id:∀ {l:List α} {x:α},(x::l).Pairwise (·≠·)→compG x l=l
 | [],x,_=>rfl
 | y::l,x,h=>by
  obtain ⟨h1,h2⟩:=List.pairwise_cons.1 h
  rw [compG,if_neg (fun e=>h1 y List.mem_cons_self e.symm),compG_id h2]
theorem comp_id {l:List α} (h:l.Pairwise (·≠·)):comp l=l:=by
 cases l with
 | nil=>rfl
 | cons x l=>rw [comp,compG_id h]
end comp
end Go.Aw.Cart
namespace Go.Aw.Ord
set_option linter.unusedVariables false
set_option linter.unusedSimpArgs false
section
variable {α:Type} (lt:α→α→Prop) [DecidableRel lt]
abbrev upI (l:List α):Prop:=l.Pairwise fun a b=>¬ lt b a
end
section
variable {α:Type} {lt:α→α→Prop} [DecidableRel lt]
end
open Go.Aw.Cart
theorem compG_sub {α:Type} [DecidableEq α]:∀ {l:List α} {x:α},(compG x l).Sublist l
 | [],x=>List.Sublist.refl _
 | y::l,x=>by
  unfold compG
  split
  ·exact List.Sublist.cons _ (@compG_sub _ _ l x)
  ·exact (@compG_sub _ _ l y).cons_cons _
theorem comp_sub {α:Type} [DecidableEq α] {l:List α}:(comp l).Sublist l:=by
 cases l with
 | nil=>exact List.Sublist.refl _
 | cons x l=>exact compG_sub.cons_cons _
end Go.Aw.Ord
