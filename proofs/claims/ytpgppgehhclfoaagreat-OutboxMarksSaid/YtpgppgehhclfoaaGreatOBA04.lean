/- The layer's texts CoreP, CoreQ, CoreR, CoreS, CoreT, CoreU, one behind the other. -/
import Derived.Test.YtpgppgehhclfoaaGreatOBA03
import Derived.Laws.Entries
import Derived.Lib.AppendZeros
/- THE ABSTRACT WALK, part 16: a range over a function: the frame that ranges lies as one object before the function that it ranges over. Nothing here speaks of a program. -/
namespace Go.Aw
open Go Go.RowKit
set_option linter.unusedVariables false
set_option linter.unusedSimpArgs false
def PVal.fnv (f:FuncId) (caps:List PVal):PVal where
  holds X v:=∃ vs:List Value,v=.func (.func f) #[] vs.toArray∧All2 (fun p c=>p.holds X c) caps vs
  mono:=by rintro x y v hle ⟨vs,h1,h2⟩;exact ⟨vs,h1,h2.mono fun p c hp=>p.mono hle hp⟩
  one:=by rintro x v ⟨vs,rfl,_⟩;rfl
/-! ### A round, as the function that is ranged over sees it -/
def YOk (P:Program) (w0:World) (F S0:Nat→Prop) (yv:Value) (av:AV) (ob:Nat) (m0 m1:Nat × Option MO):Prop:=
  ∀ (w:World) (G:Gh) (mem:Nat→Nat × Option MO) (v:Value),ObjG mem w G→FrF F w0 w→(∀ b,G.S b→S0 b∨w0.heap.size≤b∨F b)→mem ob=m0→av.holds G.μ ⟨w,G.S⟩ v→
    ∃ l fn tmps assign body,yv=.func (.yield l) #[] #[]∧(Instr.yield l #[v]).run P w=.ok (.round l fn tmps assign body) w∧
      RoundIn (fz none) 0 P l fn tmps assign body w fun e w'=>e=.returned (.bool true)∧∃ G',ObjG (putsM mem [(ob,m1)]) w' G'∧
        (∀ b,G.S b→G'.S b)∧(∀ b,G'.S b→G.S b∨w.heap.size≤b∨b∈G.φ ob)∧(∀ o b,b∈G'.φ o→b∈G.φ o∨w.heap.size≤b∨b∈G.φ ob)∧G.μ.le G'.μ∧FrF (fun b=>b∈G.φ ob) w w'
theorem lop_yield {C:Ctx} {o:Oper} {σ:St} {x y:Operand} {ts:Array TypeId} {yv:Value} {av:AV} {ob:Nat} {m0 m1:Nat × Option MO} (ho:o.op=.call ⟨.value x,#[y],ts⟩) (hx:σ.look x=.p (.v yv)) (hy:σ.look y=av) (hm:σ.mem ob=m0)
    (hY:YOk C.P C.w0 C.F C.S0 yv av ob m0 m1) (hd:dOk C o.dst=true):LOp C o σ ⟨.p (.b true),[(ob,m1)]⟩ (fun q=>q == ob):=by
  refine ⟨fun q m h=>by simp at h;simp [h.1],fun τ hlk hmm a w ⟨G,h⟩ K Q hK=>?_⟩
  have ex:=val_of h ((hlk x (by rw [ho];simp [Op.operands,Call.operands])).trans hx)
  have ey:=look_of h ((hlk y (by rw [ho];simp [Op.operands,Call.operands])).trans hy)
  obtain ⟨l,fn,tmps,assign,body,rfl,hrun,hround⟩:=hY w G τ.mem (a.eval y) h.objG ⟨h.fr.os,h.fr.tape,h.fr.output,h.fr.size,h.fr.block⟩ (fun b hb=>(h.sbd b hb).2) ((hmm ob (by simp)).trans hm) ey
  have hexec:(execOp a.eval o).run C.P w=.ok (.round l fn tmps assign body) w:=by
    simp [execOp,ho,resolve,ex,Deferred.ofValue,invoke,hrun]
  refine wpIn_exec (by rw [ho];intro c h;cases h) ?_
  rw [hexec,Oper.uponIn_round]
  refine ⟨by simp [fz,Fence.wide],?_⟩
  have hround':RoundIn (fz C.ro) (0 - 1) C.P l fn tmps assign body w _:=hround
  refine hround'.mono ?_
  rintro e w' ⟨rfl,G',hobj,k1,k2,k3,k4,k5⟩
  have hrel:=h.called (D:=fun q=>q=ob) hobj k1 (fun b hb=>by
      rcases k2 b hb with h1|h1|h1
      · exact .inl h1
      · exact .inr (.inl h1)
      · exact .inr (.inr ⟨ob,rfl,h1⟩)) (fun q b hb=>by
      rcases k3 q b hb with h1|h1|h1
      · exact .inl h1
      · exact .inr (.inl h1)
      · exact .inr (.inr ⟨ob,rfl,h1⟩)) k4 ⟨k5.os,k5.tape,k5.output,k5.size,fun k hk hn=>k5.block k hk fun hc=>hn ⟨ob,rfl,hc⟩⟩
  have hst:(⟨τ.env,putsM τ.mem [(ob,m1)]⟩:St)=τ.puts [(ob,m1)]:=by
    have e1:=St.puts_env [(ob,m1)] τ
    have e2:(τ.puts [(ob,m1)]).mem=putsM τ.mem [(ob,m1)]:=funext fun o=>puts_mem_eq [(ob,m1)] τ o
    cases hq:τ.puts [(ob,m1)];rw [hq] at e1 e2;simp at e1 e2;rw [e1,e2]
  rw [hst] at hrel
  exact hK _ _ ⟨_,hrel.setv hd ⟨rfl,rfl⟩⟩
/-! ### The frame that ranges -/
structure RelX (C:Ctx) (σ:St) (a:Act) (w:World) (G:Gh):Prop where
  size:a.tmps.size=C.N
  mle:C.M0.le G.μ
  env:∀ t,(σ.env t).holds G.μ ⟨w,G.S⟩ (a.tmps.getD t undef)
  gens:∀ o,(G.μ o).length=(σ.mem o).1
  mem:∀ o n mo,σ.mem o=(n,some mo)→∃ g m,n=g+1∧(G.μ o)[g]?=some m∧mo.holds G.μ ⟨w,G.S⟩ m (G.φ o)
  apart:∀ o o' b,o≠o'→b∈G.φ o→b∈G.φ o'→False
  stab:∀ o b,b∈G.φ o→¬ G.S b
  own:∀ o b,b∈G.φ o→(C.w0.heap.size≤b∨C.F b)∧b < w.heap.size
  sbd:∀ b,G.S b→b < w.heap.size∧(C.S0 b∨C.w0.heap.size≤b∨C.F b)
  ssub:∀ b,C.S0 b→G.S b
theorem heap_lt {w w':World} {b:Nat} (h:b < w.heap.size) (e:w'.heap[b]?=w.heap[b]?):b < w'.heap.size:=by
  rw [Array.getElem?_eq_getElem h] at e
  exact (Array.getElem?_eq_some_iff.1 e).1
theorem RelX.mono {C:Ctx} {σ:St} {a:Act} {w w':World} {G:Gh} (h:RelX C σ a w G) (hS:∀ b,G.S b→w'.heap[b]?=w.heap[b]?) (hφ:∀ o b,b∈G.φ o→w'.heap[b]?=w.heap[b]?):RelX C σ a w' G:=by
  have hle:Wd.le ⟨w,G.S⟩ ⟨w',G.S⟩:=fun b hb=>⟨hb,hS b hb⟩
  exact { size:=h.size
          mle:=h.mle
          env:=fun t=>(h.env t).mono (Mu.le.refl _) hle
          gens:=h.gens
          mem:=fun o n mo ho=>by
            obtain ⟨g,m,h1,h2,h3⟩:=h.mem o n mo ho
            exact ⟨g,m,h1,h2,h3.mono (Mu.le.refl _) hle fun k hk=>hφ o k hk⟩
          apart:=h.apart
          stab:=h.stab
          own:=fun o b hb=>⟨(h.own o b hb).1,heap_lt (h.own o b hb).2 (hφ o b hb)⟩
          sbd:=fun b hb=>⟨heap_lt (h.sbd b hb).1 (hS b hb),(h.sbd b hb).2⟩
          ssub:=h.ssub }
theorem RelX.more {C:Ctx} {σ:St} {a:Act} {w:World} {G:Gh} (h:RelX C σ a w G) {S':Nat→Prop} (h1:∀ b,G.S b→S' b) (h2:∀ o b,b∈G.φ o→¬ S' b) (h3:∀ b,S' b→b < w.heap.size∧(C.S0 b∨C.w0.heap.size≤b∨C.F b)):RelX C σ a w { G with S:=S' }:=by
  have hle:Wd.le ⟨w,G.S⟩ ⟨w,S'⟩:=fun b hb=>⟨h1 b hb,rfl⟩
  exact { size:=h.size
          mle:=h.mle
          env:=fun t=>(h.env t).mono (Mu.le.refl _) hle
          gens:=h.gens
          mem:=fun o n mo ho=>by
            obtain ⟨g,m,k1,k2,k3⟩:=h.mem o n mo ho
            exact ⟨g,m,k1,k2,k3.mono (Mu.le.refl _) hle fun _ _=>rfl⟩
          apart:=h.apart
          stab:=h2
          own:=h.own
          sbd:=h3
          ssub:=fun b hb=>h1 b (h.ssub b hb) }
def outA (C:Ctx) (a:Act) (Inv:St→Prop):AObj where
  holds X b fp:=∃ τ G,Inv τ∧RelX C τ a X.w G∧(∀ k,G.S k→X.S k)∧(∀ k,k∈fp↔∃ o,k∈G.φ o)
  mono:=by
    rintro x y b fp hle hfp ⟨τ,G,h1,h2,h3,h4⟩
    exact ⟨τ,G,h1,h2.mono (fun b hb=>(hle b (h3 b hb)).2) (fun o b hb=>hfp b ((h4 b).2 ⟨o,hb⟩)),fun k hk=>(hle k (h3 k hk)).1,h4⟩
def recA (l D:Nat) (ds:List Deferred) (r:Loop):AObj where
  holds X b fp:=(∀ k,k∈fp↔k=l∨k=D∨markOf k∈ds)∧X.w.heap[l]?=some (.loop r)∧X.w.heap[D]?=some (.deferred (some []))∧∀ k,markOf k∈ds→X.w.heap[k]?=some (.deferred (some []))
  mono:=by
    rintro x y b fp hle hfp ⟨h1,h2,h3,h4⟩
    exact ⟨h1,(hfp l ((h1 l).2 (.inl rfl))).trans h2,(hfp D ((h1 D).2 (.inr (.inl rfl)))).trans h3,fun k hk=>(hfp k ((h1 k).2 (.inr (.inr hk)))).trans (h4 k hk)⟩
def marks (ds:List Deferred):List Nat:=ds.filterMap fun d=>match d.target with | .collected b=>some b|_=>none
theorem mem_marks {ds:List Deferred} (h:∀ d∈ds,∃ b,d=markOf b) (k:Nat):k∈marks ds↔markOf k∈ds:=by
  unfold marks
  rw [List.mem_filterMap]
  constructor
  · rintro ⟨d,hd,he⟩
    obtain ⟨b,rfl⟩:=h d hd
    simp [markOf] at he
    subst he;exact hd
  · intro hk;exact ⟨markOf k,hk,by simp [markOf]⟩
section outer
variable {C:Ctx} {σ:St} {a:Act} {w:World} {G:Gh}
theorem RelG.enter (h:RelG C σ a w G) {n9:Nat} {mo9:Option MO} (h9:σ.mem 999=(n9,mo9)) (r:Loop) :
    ∃ G1,RelX C (σ.put 999 (n9+1,some (.abs (recA (w.heap.size+1) w.heap.size a.defers r)))) a ((w.alloc (.deferred (some []))).alloc (.loop r)) G1∧G1.S=G.S∧∀ x b,b∈G1.φ x→b∈G.φ x∨w.heap.size≤b∨markOf b∈a.defers:=by
  obtain ⟨w1,hw1⟩:∃ w1,(w.alloc (.deferred (some []))).alloc (.loop r)=w1:=⟨_,rfl⟩
  have hsz:w1.heap.size=w.heap.size+2:=by rw [← hw1];simp
  have hold:∀ k,k < w.heap.size→w1.heap[k]?=w.heap[k]?:=fun k hk=>by
    rw [← hw1];exact (Below.heap_alloc _ _ _ (by simp;omega)).trans (Below.heap_alloc _ _ _ hk)
  have hl:w1.heap[w.heap.size+1]?=some (.loop r):=by
    rw [← hw1];have:=heap_alloc_new (w.alloc (.deferred (some []))) (.loop r);rwa [World.size_alloc] at this
  have hD:w1.heap[w.heap.size]?=some (.deferred (some [])):=by
    rw [← hw1];exact (Below.heap_alloc _ _ _ (by simp)).trans (heap_alloc_new w _)
  rw [hw1]
  have hds:∀ d∈a.defers,∃ b,d=markOf b:=fun d hd=>let ⟨b,e,_⟩:=h.defers d hd;⟨b,e⟩
  have hdk:∀ k,markOf k∈a.defers→C.w0.heap.size≤k∧k < w.heap.size∧w.heap[k]?=some (.deferred (some []))∧¬ G.S k∧∀ o,k ∉ G.φ o:=fun k hk=>by
    obtain ⟨b,e,h1,h2,h3,h4,h5⟩:=h.defers _ hk
    have:k=b:=by simpa [markOf] using e
    subst this
    exact ⟨h1,h2,h3,h4,h5⟩
  let fp:List Nat:=(w.heap.size+1)::w.heap.size::marks a.defers
  have hfp:∀ k,k∈fp↔k=w.heap.size+1∨k=w.heap.size∨markOf k∈a.defers:=fun k=>by
    simp only [fp,List.mem_cons,mem_marks hds]
  have hlen:(G.μ 999).length=n9:=by have:=h.gens 999;rw [h9] at this;exact this
  have hle:Wd.le ⟨w,G.S⟩ ⟨w1,G.S⟩:=fun b hb=>⟨hb,hold b (h.sbd b hb).1⟩
  have hmu:G.μ.le (fun x=>if x=999 then G.μ 999++[(some 0,0)] else G.μ x):=mu_le
  refine ⟨⟨fun x=>if x=999 then G.μ 999++[(some 0,0)] else G.μ x,G.S,fun x=>if x=999 then fp else G.φ x⟩,?_,rfl,fun x b hb=>?_⟩
  rotate_left
  · by_cases hx:x=999<;>simp only [hx,if_true,if_false] at hb
    · rcases (hfp b).1 hb with e|e|e
      · exact .inr (.inl (by omega))
      · exact .inr (.inl (by omega))
      · exact .inr (.inr e)
    · exact .inl hb
  exact { size:=h.size
          mle:=h.mle.trans hmu
          env:=fun t=>(h.env t).mono hmu hle
          gens:=fun o=>by
            by_cases ho:o=999
            · subst ho;simp [St.put,hlen]
            · simpa [St.put,ho] using h.gens o
          mem:=fun o n mo ho=>by
            by_cases hq:o=999
            · subst hq
              simp only [St.put,if_true,Prod.mk.injEq,Option.some.injEq] at ho
              obtain ⟨rfl,rfl⟩:=ho
              refine ⟨n9,(some 0,0),rfl,by simp [← hlen],0,rfl,?_⟩
              exact ⟨by simpa using hfp,hl,hD,fun k hk=>(hold k (hdk k hk).2.1).trans (hdk k hk).2.2.1⟩
            · simp only [St.put,hq,if_false] at ho
              obtain ⟨g,m,k1,k2,k3⟩:=h.mem o n mo ho
              exact ⟨g,m,k1,by simpa [hq] using k2,by simpa [hq] using k3.mono hmu hle fun k hk=>hold k (h.own o k hk).2⟩
          apart:=fun o o' b hne h1 h2=>by
            have key:∀ q,q≠999→b∈G.φ q→b∈fp→False:=fun q hq k1 k2=>by
              have:=(h.own q b k1).2
              rcases (hfp b).1 k2 with e|e|e
              · omega
              · omega
              · exact (hdk b e).2.2.2.2 q k1
            by_cases e1:o=999<;>by_cases e2:o'=999<;>simp only [e1,e2,if_true,if_false] at h1 h2
            · exact hne (e1.trans e2.symm)
            · exact key o' e2 h2 h1
            · exact key o e1 h1 h2
            · exact h.apart o o' b hne h1 h2
          stab:=fun o b hb hs=>by
            by_cases e:o=999<;>simp only [e,if_true,if_false] at hb
            · rcases (hfp b).1 hb with e|e|e
              · have:=(h.sbd b hs).1;omega
              · have:=(h.sbd b hs).1;omega
              · exact (hdk b e).2.2.2.1 hs
            · exact h.stab o b hb hs
          own:=fun o b hb=>by
            by_cases e:o=999<;>simp only [e,if_true,if_false] at hb
            · have:=h.fr.size
              rcases (hfp b).1 hb with e|e|e
              · exact ⟨.inl (by omega),by omega⟩
              · exact ⟨.inl (by omega),by omega⟩
              · exact ⟨.inl (hdk b e).1,by have:=(hdk b e).2.1;omega⟩
            · exact ⟨(h.own o b hb).1,by have:=(h.own o b hb).2;omega⟩
          sbd:=fun b hb=>⟨by have:=(h.sbd b hb).1;omega,(h.sbd b hb).2⟩
          ssub:=h.ssub }
theorem RelX.leave (h:RelX C σ a w G) {n l D:Nat} {r r':Loop} (h9:σ.mem 999=(n+1,some (.abs (recA l D a.defers r)))) (hnd:a.defers.Nodup) (hds:∀ d∈a.defers,∃ b,d=markOf b) (hDn:markOf D ∉ a.defers) (hlD:l≠D) (hln:markOf l ∉ a.defers) (hf:Fr C w) (hge:∀ k,markOf k∈markOf D::a.defers→C.w0.heap.size≤k) :
    RelG C (σ.put 999 (n+1,none)) { a with defers:=markOf D::a.defers } (w.putObj l (.loop r')) ⟨G.μ,G.S,fun x=>if x=999 then [] else G.φ x⟩∧w.heap[l]?=some (.loop r):=by
  obtain ⟨g,m,_,hm,b,_,hfp,hl,hD,hk⟩:=h.mem 999 _ _ h9
  have hl9:l∈G.φ 999:=(hfp l).2 (.inl rfl)
  have hother:∀ k,k≠l→(w.putObj l (.loop r')).heap[k]?=w.heap[k]?:=fun k hk=>World.putObj_heap_other hk
  have hle:Wd.le ⟨w,G.S⟩ ⟨w.putObj l (.loop r'),G.S⟩:=fun k hs=>⟨hs,hother k fun e=>h.stab 999 l hl9 (e ▸ hs)⟩
  refine ⟨?_,hl⟩
  exact { size:=h.size
          defers:=fun d hd=>by
            have hdk:∃ k,d=markOf k∧k∈G.φ 999∧k≠l∧w.heap[k]?=some (.deferred (some [])):=by
              rcases List.mem_cons.1 hd with rfl|hd'
              · exact ⟨D,rfl,(hfp D).2 (.inr (.inl rfl)),hlD.symm,hD⟩
              · obtain ⟨k,rfl⟩:=hds d hd'
                exact ⟨k,rfl,(hfp k).2 (.inr (.inr hd')),fun e=>hln (e ▸ hd'),hk k hd'⟩
            obtain ⟨k,rfl,k1,k2,k3⟩:=hdk
            refine ⟨k,rfl,hge k hd,by simpa using (h.own 999 k k1).2,(hother k k2).trans k3,h.stab 999 k k1,fun o ho=>?_⟩
            by_cases e:o=999<;>simp only [e,if_true,if_false] at ho
            · simp at ho
            · exact h.apart o 999 k e ho k1
          dnod:=by simpa using ⟨hDn,hnd⟩
          mle:=h.mle
          env:=fun t=>(h.env t).mono (Mu.le.refl _) hle
          gens:=fun o=>by
            by_cases e:o=999
            · subst e;have:=h.gens 999;rw [h9] at this;simpa [St.put] using this
            · simpa [St.put,e] using h.gens o
          mem:=fun o n mo ho=>by
            by_cases e:o=999
            · subst e;simp [St.put] at ho
            · simp only [St.put,e,if_false] at ho
              obtain ⟨g,m,k1,k2,k3⟩:=h.mem o n mo ho
              exact ⟨g,m,k1,k2,by simpa [e] using k3.mono (Mu.le.refl _) hle fun k hk=>hother k fun e2=>h.apart o 999 l e (e2 ▸ hk) hl9⟩
          apart:=fun o o' b hne h1 h2=>by
            by_cases e1:o=999<;>by_cases e2:o'=999<;>simp [e1,e2] at h1 h2
            exact h.apart o o' b hne h1 h2
          stab:=fun o b hb=>by
            by_cases e:o=999<;>simp [e] at hb
            exact h.stab o b hb
          own:=fun o b hb=>by
            by_cases e:o=999<;>simp [e] at hb
            simpa using h.own o b hb
          sbd:=fun b hb=>by simpa using h.sbd b hb
          ssub:=h.ssub
          fr:=⟨hf.os,⟨hf.tape.eq,hf.tape.le⟩,hf.output,by simpa using hf.size,fun k hk hF=>(hother k fun e=>by
            rcases (h.own 999 l hl9).1 with h1|h1
            · omega
            · exact hF (e ▸ h1)).trans (hf.block k hk hF)⟩ }
end outer
end Go.Aw
/- THE ABSTRACT WALK, part 17: a round; the statement that ranges over a function; the contract of such a function. Nothing here speaks of a program. -/
namespace Go.Aw
open Go Go.RowKit
set_option linter.unusedVariables false
set_option linter.unusedSimpArgs false
theorem RelG.recTurn {C:Ctx} {σ:St} {a:Act} {w:World} {G:Gh} (h:RelG C σ a w G) {n l D:Nat} {ds:List Deferred} {r:Loop} (r':Loop) (h9:σ.mem 999=(n+1,some (.abs (recA l D ds r)))) :
    w.heap[l]?=some (.loop r)∧∃ G',RelG C (σ.put 999 (n+1,some (.abs (recA l D ds r')))) a (w.putObj l (.loop r')) G'∧G'.S=G.S∧G'.μ=G.μ∧G'.φ=G.φ:=by
  obtain ⟨g,m,hg,hm,b,hb,hfp,hl,hD,hk⟩:=h.mem 999 _ _ h9
  have hl9:l∈G.φ 999:=(hfp l).2 (.inl rfl)
  have hlt:l < w.heap.size:=(h.own 999 l hl9).2
  refine ⟨hl,_,h.upd (o:=999) (n':=n+1) (mo':=some (.abs (recA l D ds r'))) (μo:=G.μ 999) (fp':=G.φ 999) (fun _ _ hx=>hx) (by have:=h.gens 999;rw [h9] at this;exact this) rfl .same rfl (by simp)
    (fun k _ hn=>World.putObj_heap_other fun e=>hn (e ▸ hl9)) (fun k hk=>⟨.inl hk,by simpa using (h.own 999 k hk).2⟩) (fun mo hmo=>by
      obtain rfl:=Option.some.inj hmo
      refine ⟨g,m,hg,hm,b,hb,hfp,World.putObj_heap_same hlt,?_,fun k hk'=>?_⟩
      · have hne:D≠l:=fun e=>by rw [e] at hD;rw [hl] at hD;cases hD
        exact (World.putObj_heap_other hne).trans hD
      · have hne:k≠l:=fun e=>by have:=hk k hk';rw [e,hl] at this;cases this
        exact (World.putObj_heap_other hne).trans (hk k hk')),rfl,?_,?_⟩
  · funext x;by_cases hx:x=999<;>simp [hx]
  · funext x;by_cases hx:x=999<;>simp [hx]
open Classical in
theorem fp_list {w:World} {φ:Nat→List Nat} (h:∀ o b,b∈φ o→b < w.heap.size):∃ l:List Nat,∀ k,k∈l↔∃ o,k∈φ o:=
  ⟨(List.range w.heap.size).filter fun b=>decide (∃ o,b∈φ o),fun k=>by
    rw [List.mem_filter]
    constructor
    · rintro ⟨_,h2⟩;exact of_decide_eq_true h2
    · rintro ⟨o,ho⟩;exact ⟨List.mem_range.2 (h o k ho),decide_eq_true ⟨o,ho⟩⟩⟩
theorem fr_mem {σ τ:St} {W M:List Nat} {m:List (Nat × (Nat × Option MO))} (h:Fr' σ W [] M m τ) (hm:m.all (fun p=>memb M p.1)=true) {t:Nat} (ht:memb M t=false):τ.mem t=σ.mem t:=by
  obtain ⟨β,γ,rfl⟩:=h
  have key:∀ (l:List (Nat × (Nat × Option MO))) (f:Nat→Nat × Option MO),l.all (fun p=>memb M p.1)=true→ovl l f t=f t:=by
    intro l
    induction l with
    | nil=>intro f _;rfl
    | cons p l ih=>
      intro f hl
      obtain ⟨k,v⟩:=p
      simp only [List.all_cons,Bool.and_eq_true] at hl
      have:t≠k:=fun e=>by rw [e,hl.1] at ht;cases ht
      simp only [ovl,this,if_false];exact ih f hl.2
  simp only [St.fr]
  rw [key m _ hm,ht];rfl
section round
variable {C:Ctx} {a:Act} {σ:St} {l D n9:Nat} {fn:FuncId} {assign body:Code} {p:Nat}
def recOf (fn:FuncId) (a:Act) (p:Nat) (assign body:Code) (D:Nat) (st:LoopState):Loop:={ state:=st,pending:=none,fn,tmps:=a.tmps,params:=#[p],assign,body,defers:=D }
def recM (l D:Nat) (ds:List Deferred) (r:Loop):MO:=.abs (recA l D ds r)
def between {ι:Type} (σ:St) (n9:Nat) (R:MO) (M:List Nat) (m:ι→List (Nat × (Nat × Option MO))) (Pk:Nat→ι→Prop) (k:Nat) (τ:St):Prop:=∃ i,Pk k i∧Fr' (σ.put 999 (n9+1,some R)) [] [] M (m i) τ
theorem yok_round {ι:Type} {M W:List Nat} {m:ι→List (Nat × (Nat × Option MO))} {Pk:Nat→ι→Prop} {k:Nat} {x:AV} [hx:PureAV x] {w1:World} {F1 S1:Nat→Prop} (hFr:Fr C w1) (hF1:∀ b,F1 b→C.w0.heap.size≤b∨C.F b) (hS1:∀ b,S1 b→C.S0 b∨C.w0.heap.size≤b∨C.F b)
    (hM:memb M 999=false) (hm:∀ i,(m i).all (fun q=>memb M q.1)=true) (hp:Nat.ble (p+1) C.N=true)
    (hround:∀ i γ (w0:World) (F S0:Nat→Prop) (M0:Mu) (l:Nat) (R R':MO),Pk k i→AWs ⟨C.P,w0,F,S0,C.N,some l,M0⟩ [assign] (fun e s1=>e=.normal∧s1.mem 999=(n9+1,some R)∧
      AWs ⟨C.P,w0,F,S0,C.N,some l,M0⟩ [body] (fun e s2=>e=.normal∧∃ j τ,Pk (k+1) j∧Says ⟨C.P,w0,F,S0,C.N,some l,M0⟩ s2 τ∧Fr' (σ.put 999 (n9+1,some R')) W [] M (m j) τ) (s1.put 999 (n9+1,some R')))
      (((σ.put 999 (n9+1,some R)).fr [] σ.env [] M γ (m i)).set (some p) x)) :
    YOk C.P w1 F1 S1 (.func (.yield l) #[] #[]) x 1000 (1,some (.abs (outA C a (between σ n9 (recM l D a.defers (recOf fn a p assign body D .ready)) M m Pk k))))
      (1,some (.abs (outA C a (between σ n9 (recM l D a.defers (recOf fn a p assign body D .ready)) M m Pk (k+1))))):=by
  intro w Gi mem v hO hF hSb hm0 hv
  obtain ⟨g,mm,hg,hmm,b,hb1,τ,G,⟨i,hP,hτ⟩,hX,hS,hφ⟩:=hO.mem 1000 _ _ hm0
  obtain rfl:g=0:=by omega
  have hsz:C.w0.heap.size≤w.heap.size:=Nat.le_trans hFr.size hF.size
  have hX1:RelX C τ a w { G with S:=Gi.S }:=hX.more hS (fun o c hc=>hO.stab 1000 c ((hφ c).2 ⟨o,hc⟩)) (fun c hc=>⟨hO.sbd c hc,by
    rcases hSb c hc with h1|h1|h1
    · exact hS1 c h1
    · exact .inr (.inl (Nat.le_trans hFr.size h1))
    · exact .inr (hF1 c h1)⟩)
  have hτ9:τ.mem 999=(n9+1,some (recM l D a.defers (recOf fn a p assign body D .ready))):=by rw [fr_mem hτ (hm i) hM];simp [St.put]
  have hvx:x.holds Mu.none ⟨w,Gi.S⟩ v:=hx.pure _ _ _ hv
  -- the round's frame
  have hR0:RelG ⟨C.P,w,fun c=>c∈Gi.φ 1000,Gi.S,C.N,some l,G.μ⟩ τ { tmps:=a.tmps,defers:=[] } w { G with S:=Gi.S }:={
    size:=hX1.size
    defers:=fun d hd=>by simp at hd
    dnod:=by simp
    mle:=Mu.le.refl _
    env:=hX1.env
    gens:=hX1.gens
    mem:=hX1.mem
    apart:=hX1.apart
    stab:=hX1.stab
    own:=fun o c hc=>⟨.inr ((hφ c).2 ⟨o,hc⟩),(hX1.own o c hc).2⟩
    sbd:=fun c hc=>⟨(hX1.sbd c hc).1,.inl hc⟩
    ssub:=fun c hc=>hc
    fr:=⟨rfl,.same,rfl,Nat.le_refl _,fun _ _ _=>rfl⟩ }
  obtain ⟨hl , -⟩:=hR0.recTurn (recOf fn a p assign body D .busy) hτ9
  have hR1:=hR0.setv (d:=some p) (val:=x) (v:=v) hp (hvx.mono (Mu.none_le _) (Wd.le.refl _))
  obtain ⟨βτ,γτ,hτe⟩:=hτ
  have hτ':τ=(σ.put 999 (n9+1,some (recM l D a.defers (recOf fn a p assign body D .ready)))).fr [] σ.env [] M γτ (m i):=by rw [hτe];rfl
  refine ⟨l,fn,_,assign,body,rfl,run_yield hl (by simp [recOf]),?_⟩
  have hAct:((#[p]:Array Tmp).zip #[v]).foldl (fun tmps (t,c)=>tmps.setIfInBounds t c) a.tmps=a.tmps.setIfInBounds p v:=by simp
  refine roundIn_of_wpIn (F:=fz none) trivial ?_
  show assign.wpIn (fz (some l)) 0 C.P _ { tmps:=((#[p]:Array Tmp).zip #[v]).foldl (fun tmps (t,c)=>tmps.setIfInBounds t c) a.tmps,defers:=[] } w
  rw [hAct]
  have hA:=aws_one (hround i γτ w (fun c=>c∈Gi.φ 1000) Gi.S G.μ l (recM l D a.defers (recOf fn a p assign body D .ready)) (recM l D a.defers (recOf fn a p assign body D .busy)) hP)
  rw [← hτ'] at hA
  refine wpIn_mono (hA _ w ⟨_,hR1⟩) ?_
  rintro e a1 w2 ⟨s1,⟨rfl,h19,hB⟩,G1,hG1⟩
  obtain ⟨hl1,G2,hG2,e1,e2,e3⟩:=hG1.recTurn (recOf fn a p assign body D .busy) h19
  refine ⟨_,run_beginRound hl1 rfl,?_⟩
  refine wpIn_mono (aws_one hB _ _ ⟨G2,hG2⟩) ?_
  rintro e a2 w3 ⟨s2,⟨rfl,j,τ2,hPj,hsays,hfr2⟩,hrel⟩
  obtain ⟨G3,hG3⟩:=hsays _ _ hrel
  have h29:τ2.mem 999=(n9+1,some (recM l D a.defers (recOf fn a p assign body D .busy))):=by rw [fr_mem hfr2 (hm j) hM];simp [St.put]
  obtain ⟨hl3,G4,hG4,f1,f2,f3⟩:=hG3.recTurn (recOf fn a p assign body D .ready) h29
  have hend:(Instr.endRound l none).run C.P w3=.ok (.bool true) (w3.putObj l (.loop (recOf fn a p assign body D .ready))):=by have:=run_endRound (P:=C.P) none hl3;simpa [recOf] using this
  generalize hw4:w3.putObj l (.loop (recOf fn a p assign body D .ready))=w4 at hG4 hend
  refine ⟨.bool true,w4,hend,rfl,?_⟩
  -- behind the round
  obtain ⟨fp,hfp⟩:=fp_list (w:=w4) (φ:=G4.φ) fun o c hc=>(hG4.own o c hc).2
  have hkeep:∀ c,c < w.heap.size→c ∉ Gi.φ 1000→w4.heap[c]?=w.heap[c]?:=fun c h1 h2=>hG4.fr.block c h1 h2
  have hle:Wd.le ⟨w,Gi.S⟩ ⟨w4,G4.S⟩:=fun c hc=>⟨hG4.ssub c hc,hkeep c (hO.sbd c hc) fun h1=>hO.stab 1000 c h1 hc⟩
  have hfpw:∀ c,c∈fp→(w.heap.size≤c∨c∈Gi.φ 1000)∧c < w4.heap.size:=fun c hc=>by
    obtain ⟨o,ho⟩:=(hfp c).1 hc
    exact hG4.own o c ho
  obtain ⟨γ2,hγ2⟩:∃ γ2,(τ2.put 999 (n9+1,some (recM l D a.defers (recOf fn a p assign body D .ready)))).mem=((σ.put 999 (n9+1,some (recM l D a.defers (recOf fn a p assign body D .ready)))).fr [] σ.env [] M γ2 (m j)).mem:=by
    obtain ⟨β2,γ2,hτ2⟩:=hfr2
    refine ⟨γ2,funext fun t=>?_⟩
    by_cases ht:t=999
    · subst ht
      have:=fr_mem (σ:=σ.put 999 (n9+1,some (recM l D a.defers (recOf fn a p assign body D .ready)))) (W:=[]) (M:=M) (m:=m j) ⟨σ.env,γ2,rfl⟩ (hm j) hM
      rw [this];simp [St.put]
    · simp only [St.put,ht,if_false]
      rw [hτ2]
      simp only [St.fr]
      refine ovl_mem ?_
      simp [St.put,ht]
  refine ⟨⟨Gi.μ,G4.S,fun o=>if o=1000 then fp else Gi.φ o⟩,?_,hG4.ssub,fun c hc=>by
    rcases (hG4.sbd c hc).2 with h1|h1|h1
    · exact .inl h1
    · exact .inr (.inl h1)
    · exact .inr (.inr h1),fun o c hc=>?_,Mu.le.refl _,⟨hG4.fr.os,hG4.fr.tape,hG4.fr.output,hG4.fr.size,hkeep⟩⟩
  · exact {
      gens:=fun o=>by
        by_cases ho:o=1000
        · subst ho;have:=hO.gens 1000;rw [hm0] at this;simpa [putsM] using this
        · simpa [putsM,ho] using hO.gens o
      mem:=fun o n mo ho=>by
        by_cases hq:o=1000
        · subst hq
          simp only [putsM,if_true,Prod.mk.injEq,Option.some.injEq] at ho
          obtain ⟨rfl,rfl⟩:=ho
          refine ⟨0,mm,rfl,hmm,b,hb1,⟨σ.env,(τ2.put 999 (n9+1,some (recM l D a.defers (recOf fn a p assign body D .ready)))).mem⟩,G4,⟨j,hPj,σ.env,γ2,?_⟩,?_,fun c hc=>hc,by simpa using hfp⟩
          · exact st_eq rfl hγ2
          · exact {
              size:=hX1.size
              mle:=hX1.mle.trans hG4.mle
              env:=fun t=>by
                have h1:=hX1.env t
                have h2:τ.env=σ.env:=by rw [hτ'];rfl
                rw [h2] at h1
                exact h1.mono hG4.mle hle
              gens:=hG4.gens
              mem:=hG4.mem
              apart:=hG4.apart
              stab:=hG4.stab
              own:=fun o c hc=>⟨by
                rcases (hG4.own o c hc).1 with h1|h1
                · exact .inl (Nat.le_trans hsz h1)
                · obtain ⟨q,hq⟩:=(hφ c).1 h1
                  exact (hX1.own q c hq).1,(hG4.own o c hc).2⟩
              sbd:=fun c hc=>⟨(hG4.sbd c hc).1,by
                rcases (hG4.sbd c hc).2 with h1|h1|h1
                · exact (hX1.sbd c h1).2
                · exact .inr (.inl (Nat.le_trans hsz h1))
                · obtain ⟨q,hq⟩:=(hφ c).1 h1
                  exact .inr (hX1.own q c hq).1⟩
              ssub:=fun c hc=>hG4.ssub c (hX1.ssub c hc) }
        · simp only [putsM,hq,if_false] at ho
          obtain ⟨g,m',k1,k2,k3⟩:=hO.mem o n mo ho
          refine ⟨g,m',k1,k2,?_⟩
          simp only [hq,if_false]
          exact k3.mono (Mu.le.refl _) hle fun c hc=>hkeep c (hO.own o c hc) fun h1=>hO.apart o 1000 c hq hc h1
      apart:=fun o o' c hne h1 h2=>by
        have key:∀ q,q≠1000→c∈Gi.φ q→c∈fp→False:=fun q hq k1 k2=>by
          rcases (hfpw c k2).1 with h3|h3
          · have:=hO.own q c k1;omega
          · exact hO.apart q 1000 c hq k1 h3
        by_cases e1:o=1000<;>by_cases e2:o'=1000<;>simp only [e1,e2,if_true,if_false] at h1 h2
        · exact hne (e1.trans e2.symm)
        · exact key o' e2 h2 h1
        · exact key o e1 h1 h2
        · exact hO.apart o o' c hne h1 h2
      stab:=fun o c hc hs=>by
        by_cases e:o=1000<;>simp only [e,if_true,if_false] at hc
        · obtain ⟨q,hq⟩:=(hfp c).1 hc
          exact hG4.stab q c hq hs
        · rcases (hG4.sbd c hs).2 with h1|h1|h1
          · exact hO.stab o c hc h1
          · have:=hO.own o c hc
            have h2:w.heap.size≤c:=h1
            omega
          · exact hO.apart o 1000 c e hc h1
      own:=fun o c hc=>by
        by_cases e:o=1000<;>simp only [e,if_true,if_false] at hc
        · exact (hfpw c hc).2
        · exact Nat.lt_of_lt_of_le (hO.own o c hc) hG4.fr.size
      sbd:=fun c hc=>(hG4.sbd c hc).1 }
  · by_cases e:o=1000<;>simp only [e,if_true,if_false] at hc
    · subst e
      rcases (hfpw c hc).1 with h1|h1
      · exact .inr (.inl h1)
      · exact .inl h1
    · exact .inl hc
end round
end Go.Aw
/- THE ABSTRACT WALK, part 18: the contract of a function that is ranged over; the statement. Nothing here speaks of a program. -/
namespace Go.Aw
open Go Go.RowKit
set_option linter.unusedVariables false
set_option linter.unusedSimpArgs false
def ICall (P:Program) (f:FuncId) (caps:List PVal) (xs:List AV):Prop:=
  ∀ (w:World) (G:Gh) (I:Nat→AObj) (yv:Value) (ys:List Value),ObjG (memL [(1000,(1,some (.abs (I 0))))]) w G→yv.oneCell'=true→All2 (fun p c=>p.holds ⟨w,G.S⟩ c) caps ys→
    (∀ k x,xs[k]?=some x→YOk P w (fun b=>∃ o,b∈G.φ o) G.S yv x 1000 (1,some (.abs (I k))) (1,some (.abs (I (k+1)))))→
    Calls P f (yv::ys).toArray w (OPost (.tup []) (memL [(1000,(1,some (.abs (I xs.length))))]) w G)
class IC (P:Program) (f:FuncId) (caps:List PVal) (pre:outParam Prop) (xs:outParam (List AV)):Prop where
  call:pre→ICall P f caps xs
theorem icall_of {P:Program} {f:FuncId} {fn:Func} {body:Code} {caps:List PVal} {xs:List AV} (hf:P.funcs[f]?=some fn) (hb:fn.body=some body)
    (h:∀ w0 F S0 M0 (I:Nat→AObj) (yv:Value),yv.oneCell'=true→(∀ k x,xs[k]?=some x→YOk P w0 F S0 yv x 1000 (1,some (.abs (I k))) (1,some (.abs (I (k+1)))))→
      AWs ⟨P,w0,F,S0,max (caps.length+1) fn.ntmps,none,M0⟩ [body] (RetO P fn (.tup []) (kIn [(1000,(1,some (.abs (I xs.length))))]) (memL [(1000,(1,some (.abs (I xs.length))))])) ⟨fun t=>(.p (.v yv)::caps.map .p:List AV).getD t .un,memL [(1000,(1,some (.abs (I 0))))]⟩):ICall P f caps xs:=by
  intro w G I yv ys hO hone hcaps hY
  have ha:All2 (AV.holds G.μ ⟨w,G.S⟩) (.p (.v yv)::caps.map .p) (yv::ys):=by
    refine .cons ⟨rfl,hone⟩ ⟨by simpa using hcaps.1,fun i c v hc hv=>?_⟩
    rw [List.getElem?_map] at hc
    cases hp:caps[i]? with
    | none=>rw [hp] at hc;cases hc
    | some q=>rw [hp] at hc;simp at hc;subst hc;exact hcaps.2 i q v hp hv
  have hN:max (caps.length+1) fn.ntmps=max (.p (.v yv)::caps.map AV.p:List AV).length fn.ntmps:=by simp
  have h1:=h w (fun b=>∃ o,b∈G.φ o) G.S G.μ I yv hone hY
  rw [hN] at h1
  exact ocall_at (kIn [(1000,(1,some (.abs (I xs.length))))]) hf hb (fun o ho=>by
    have:o≠1000:=fun e=>by subst e;simp [kIn] at ho
    simp [memL,this]) hO ha h1
theorem aws_range {ι:Type} {C:Ctx} {Q:Exit→St→Prop} {σ:St} {k:List Code} {g:Operand} {assign body:Code} {p gf n9:Nat} {mo9:Option MO} {caps:List PVal} {xs:List AV} (W M:List Nat) (m:ι→List (Nat × (Nat × Option MO))) (Pk:Nat→ι→Prop) (i₀:ι)
    (hg:σ.look g=.p (.fnv gf caps)) (hfn:FnT C.P gf) (hI:ICall C.P gf caps xs) (hro:C.ro=none) (hx:∀ x∈xs,PureAV x) (h9:σ.mem 999=(n9,mo9)) (hM:memb M 999=false) (hm:∀ i,(m i).all (fun q=>memb M q.1)=true) (hp:Nat.ble (p+1) C.N=true)
    (h0:Pk 0 i₀) (hm0:Knows σ.mem (m i₀))
    (hround:∀ j x,xs[j]?=some x→∀ i γ (w0:World) (F S0:Nat→Prop) (M0:Mu) (l:Nat) (R R':MO),Pk j i→AWs ⟨C.P,w0,F,S0,C.N,some l,M0⟩ [assign] (fun e s1=>e=.normal∧s1.mem 999=(n9+1,some R)∧
      AWs ⟨C.P,w0,F,S0,C.N,some l,M0⟩ [body] (fun e s2=>e=.normal∧∃ i' τ,Pk (j+1) i'∧Says ⟨C.P,w0,F,S0,C.N,some l,M0⟩ s2 τ∧Fr' (σ.put 999 (n9+1,some R')) W [] M (m i') τ) (s1.put 999 (n9+1,some R')))
      (((σ.put 999 (n9+1,some R)).fr [] σ.env [] M γ (m i)).set (some p) x))
    (hk:∀ i γ,Pk xs.length i→AWs C k Q ((σ.put 999 (n9+1,none)).fr [] σ.env [] M γ (m i))):AWs C (.rangeFunc g #[p] assign body::k) Q σ:=by
  intro a w ⟨G,hG⟩
  refine wpIn_rangeFunc ?_
  intro fn _
  rw [hro]
  obtain ⟨ys,hgv,hcaps⟩:=look_of hG hg
  have hsz:=hG.fr.size
  obtain ⟨w1,hw1⟩:∃ w1,(w.alloc (.deferred (some []))).alloc (.loop (recOf fn a p assign body w.heap.size .ready))=w1:=⟨_,rfl⟩
  obtain ⟨G1,hX,hS1 , -⟩:=hG.enter h9 (recOf fn a p assign body w.heap.size .ready)
  rw [hw1] at hX
  have hw1s:w1.heap.size=w.heap.size+2:=by rw [← hw1];simp
  have hold:∀ b,b < w.heap.size→w1.heap[b]?=w.heap[b]?:=fun b hb=>by
    rw [← hw1];exact (Below.heap_alloc _ _ _ (by simp;omega)).trans (Below.heap_alloc _ _ _ hb)
  have hFr1:Fr C w1:=⟨by rw [← hw1];exact hG.fr.os,by rw [← hw1];exact ⟨hG.fr.tape.eq,hG.fr.tape.le⟩,by rw [← hw1];exact hG.fr.output,by omega,fun b hb hF=>(hold b (by omega)).trans (hG.fr.block b hb hF)⟩
  obtain ⟨fp,hfp⟩:=fp_list (w:=w1) (φ:=G1.φ) fun o c hc=>(hX.own o c hc).2
  have hdk:∀ b,markOf b∈a.defers→C.w0.heap.size≤b∧b < w.heap.size:=fun b hb=>by
    obtain ⟨c,e,h1,h2,_⟩:=hG.defers _ hb
    have:b=c:=by simpa [markOf] using e
    subst this;exact ⟨h1,h2⟩
  have hO:ObjG (memL [(1000,(1,some (.abs (outA C a (between σ n9 (recM (w.heap.size+1) w.heap.size a.defers (recOf fn a p assign body w.heap.size .ready)) M m Pk 0)))))]) w1 ⟨fun o=>if o=1000 then [(some 0,0)] else [],G.S,fun o=>if o=1000 then fp else []⟩:={
    gens:=fun o=>by by_cases ho:o=1000<;>simp [memL,ho]
    mem:=fun o n mo ho=>by
      by_cases hq:o=1000
      · subst hq
        simp only [memL,if_true,Prod.mk.injEq,Option.some.injEq] at ho
        obtain ⟨rfl,rfl⟩:=ho
        refine ⟨0,(some 0,0),rfl,by simp,0,rfl,_,G1,⟨i₀,h0,Fr'.mk .refl .nil ?_⟩,hX,fun b hb=>by rw [hS1] at hb;exact hb,by simpa using hfp⟩
        have key:∀ (l:List (Nat × (Nat × Option MO))),l.all (fun q=>memb M q.1)=true→Knows σ.mem l→Knows (σ.put 999 (n9+1,some (recM (w.heap.size+1) w.heap.size a.defers (recOf fn a p assign body w.heap.size .ready)))).mem l:=by
          intro l hl hkn
          induction hkn with
          | nil=>exact .nil
          | cons h hl' ih=>
            simp only [List.all_cons,Bool.and_eq_true] at hl
            refine .cons ?_ (ih hl.2)
            have:∀ q,memb M q=true→q≠999:=fun q hq e=>by rw [e,hM] at hq;cases hq
            simp only [St.put,this _ hl.1,if_false];exact h
        exact key _ (hm i₀) hm0
      · simp [memL,hq] at ho
    apart:=fun o o' b hne h1 h2=>by
      by_cases e1:o=1000<;>by_cases e2:o'=1000<;>simp [e1,e2] at h1 h2
      exact hne (e1.trans e2.symm)
    stab:=fun o b hb hs=>by
      by_cases e:o=1000<;>simp [e] at hb
      obtain ⟨q,hq⟩:=(hfp b).1 hb
      exact hX.stab q b hq (by rw [hS1];exact hs)
    own:=fun o b hb=>by
      by_cases e:o=1000<;>simp [e] at hb
      obtain ⟨q,hq⟩:=(hfp b).1 hb
      exact (hX.own q b hq).2
    sbd:=fun b hb=>by have:=(hG.sbd b hb).1;omega }
  have hF1:∀ b,(∃ o,b∈(if o=1000 then fp else []))→C.w0.heap.size≤b∨C.F b:=by
    rintro b ⟨o,ho⟩
    by_cases e:o=1000<;>simp [e] at ho
    obtain ⟨q,hq⟩:=(hfp b).1 ho
    exact (hX.own q b hq).1
  obtain ⟨fnn,k1,k2,k3⟩:=hfn.fn
  have hname : ¬ fnn.name = "runtime.NumGoroutine" := by simpa using k2
  have eg:∀ (args:Array Value) (w:World),(callFunc gf args).run C.P w=.ok (.enter gf args) w:=fun args w=>by
    cases hbody:fnn.body with
    | none=>simp [hbody] at k3
    | some c=>simp [callFunc,program,Sem.run,Sem.run_bind,k1,hbody,pure,hname]
  refine ⟨w.heap.size+1,[markOf w.heap.size],w1,{ target:=.fn (.func gf) ys.toArray,args:=#[.func (.yield (w.heap.size+1)) #[] #[]] },w1,gf,#[.func (.yield (w.heap.size+1)) #[] #[]]++ys.toArray,w1,?_,?_,?_,?_,by simp [fz,Fence.wide],?_⟩
  · rw [← hw1];exact run_enterLoop_outer _ _ _ _ _
  · simp only [resolve,hgv]
    simp [go_sem]
  · intro f' _;trivial
  · simp only [invoke];exact eg _ _
  · have hcall:=hI w1 _ (fun j=>outA C a (between σ n9 (recM (w.heap.size+1) w.heap.size a.defers (recOf fn a p assign body w.heap.size .ready)) M m Pk j)) (.func (.yield (w.heap.size+1)) #[] #[]) ys hO rfl
      (hcaps.mono fun q c hq=>q.mono (x:=⟨w,G.S⟩) (fun b hb=>⟨hb,hold b (hG.sbd b hb).1⟩) hq)
      (fun j x hj=>by
        have:PureAV x:=hx x (List.mem_of_getElem? hj)
        exact yok_round (C:=C) (a:=a) (σ:=σ) (W:=W) hFr1 hF1 (fun b hb=>(hG.sbd b hb).2) hM hm hp (hround j x hj))
    have e : #[Value.func (.yield (w.heap.size+1)) #[] #[]]++ys.toArray=(Value.func (.yield (w.heap.size+1)) #[] #[]::ys).toArray:=by apply Array.toList_inj.1;simp
    rw [e]
    refine (callsIn_wide (n:=0)).2 (hcall.mono ?_)
    rintro e w' ⟨v,G',rfl,_,hO',q1,q2,q3,q4,q5⟩
    obtain ⟨g',mm,_,_,b,_,τ,G2,⟨i,hPi,hτ⟩,hX2,hS2,hφ2⟩:=hO'.mem 1000 1 _ rfl
    have hFr':Fr C w':=⟨q5.os.trans hFr1.os,q5.tape.trans hFr1.tape,q5.output.trans hFr1.output,Nat.le_trans hFr1.size q5.size,fun b hb hF=>(q5.block b (Nat.lt_of_lt_of_le hb hFr1.size) fun hc=>by
      rcases hF1 b hc with h1|h1
      · omega
      · exact hF h1).trans (hFr1.block b hb hF)⟩
    have hτ9:τ.mem 999=(n9+1,some (recM (w.heap.size+1) w.heap.size a.defers (recOf fn a p assign body w.heap.size .ready))):=by rw [fr_mem hτ (hm i) hM];simp [St.put]
    obtain ⟨hrel,hl⟩:=hX2.leave (r':={ recOf fn a p assign body w.heap.size .ready with state:=.exhausted }) hτ9 hG.dnod (fun d hd=>let ⟨b,e,_⟩:=hG.defers d hd;⟨b,e⟩) (fun hc=>by have:=(hdk _ hc).2;omega) (by omega) (fun hc=>by have:=(hdk _ hc).2;omega) hFr' (fun b hb=>by
      rcases List.mem_cons.1 hb with h1|h1
      · have:b=w.heap.size:=by simpa [markOf] using h1
        omega
      · exact (hdk b h1).1)
    refine ⟨none,_,run_endLoop hl (by simp [recOf]),?_⟩
    obtain ⟨βτ,γτ,hτe⟩:=hτ
    have hst:τ.put 999 (n9+1,none)=(σ.put 999 (n9+1,none)).fr [] σ.env [] M γτ (m i):=by
      refine st_eq (by rw [hτe];rfl) (funext fun t=>?_)
      by_cases ht:t=999
      · subst ht
        have:=fr_mem (σ:=σ.put 999 (n9+1,none)) (W:=[]) (M:=M) (m:=m i) ⟨σ.env,γτ,rfl⟩ (hm i) hM
        rw [this];simp [St.put]
      · simp only [St.put,ht,if_false]
        rw [hτe]
        simp only [St.fr]
        refine ovl_mem ?_
        simp [St.put,ht]
    rw [hst] at hrel
    exact ⟨_,hk i γτ hPi,_,hrel⟩
end Go.Aw
/- THE ABSTRACT WALK, part 19: functions' values; words; arrays whose cells are mapped. Nothing here speaks of a program. -/
namespace Go.Aw
open Go Go.RowKit
set_option linter.unusedVariables false
set_option linter.unusedSimpArgs false
/-! ### Words -/
def md:IntKind→Nat
  | .i8 | .u8=>256
  | .i16 | .u16=>65536
  | .i32 | .u32=>4294967296
  | .i64 | .u64=>18446744073709551616
theorem wrap_md {k:IntKind} (hs:k.signed=false) (n:Nat):k.wrap (n:Int)=((n % md k:Nat):Int):=by
  cases k<;>simp [IntKind.signed] at hs<;>simp [IntKind.wrap,IntKind.bits,IntKind.signed,md]
theorem bits_md (k:IntKind):2 ^ k.bits=md k:=by cases k<;>rfl
theorem ofInt_nat {B:Nat} (n:Nat):(BitVec.ofInt B (n:Int)).toNat=n % 2 ^ B:=by simp [BitVec.toNat_ofInt]
theorem bits_nat {k:IntKind} (hs:k.signed=false) (a b:Nat) :
    bits .and k a b=((a % md k&&& b % md k:Nat):Int)∧bits .or k a b=((a % md k||| b % md k:Nat):Int)∧bits .xor k a b=(((a % md k) ^^^ (b % md k):Nat):Int):=by
  have ha:a % md k < 2 ^ k.bits:=by rw [bits_md];exact Nat.mod_lt _ (by cases k<;>decide)
  have hb:b % md k < 2 ^ k.bits:=by rw [bits_md];exact Nat.mod_lt _ (by cases k<;>decide)
  refine ⟨?_,?_,?_⟩
  · simp only [bits,BitVec.toNat_and,ofInt_nat,bits_md,wrap_md hs]
    rw [Nat.mod_eq_of_lt (a:=_&&& _)]
    have:=Nat.and_lt_two_pow (a % md k) hb;rwa [bits_md] at this
  · simp only [bits,BitVec.toNat_or,ofInt_nat,bits_md,wrap_md hs]
    rw [Nat.mod_eq_of_lt (a:=_||| _)]
    have:=Nat.or_lt_two_pow ha hb;rwa [bits_md] at this
  · simp only [bits,BitVec.toNat_xor,ofInt_nat,bits_md,wrap_md hs]
    rw [Nat.mod_eq_of_lt (a:=_ ^^^ _)]
    have:=Nat.xor_lt_two_pow ha hb;rwa [bits_md] at this
section words
variable {C:Ctx} {o:Oper} {σ:St} {t t':TypeId} {x y:Operand} {k k':IntKind} {a b:Nat} {m n:Int}
theorem lop_wadd (ho:o.op=.binOp .add t x y t') (hx:σ.look x=.p (.v (.int k (a:Int)))) (hy:σ.look y=.p (.v (.int k (b:Int)))) (hs:k.signed=false) (hd:dOk C o.dst=true):LOp C o σ ⟨.p (.v (.int k (((a+b) % md k:Nat):Int))),[]⟩ (fun _=>false):=by
  have:=lop_add ho hx hy hd;rwa [← Int.natCast_add,wrap_md hs] at this
theorem lop_wmul (ho:o.op=.binOp .mul t x y t') (hx:σ.look x=.p (.v (.int k (a:Int)))) (hy:σ.look y=.p (.v (.int k (b:Int)))) (hs:k.signed=false) (hd:dOk C o.dst=true):LOp C o σ ⟨.p (.v (.int k (((a * b) % md k:Nat):Int))),[]⟩ (fun _=>false):=by
  have:=lop_mul ho hx hy hd;rwa [← Int.natCast_mul,wrap_md hs] at this
theorem lop_wsub (ho:o.op=.binOp .sub t x y t') (hx:σ.look x=.p (.v (.int k (a:Int)))) (hy:σ.look y=.p (.v (.int k (b:Int)))) (hs:k.signed=false) (hd:dOk C o.dst=true):LOp C o σ ⟨.p (.v (.int k (((a+(md k - b % md k)) % md k:Nat):Int))),[]⟩ (fun _=>false):=by
  have:=lop_sub ho hx hy hd
  have e:k.wrap ((a:Int) - b)=(((a+(md k - b % md k)) % md k:Nat):Int):=by
    have hb:b % md k < md k:=Nat.mod_lt _ (by cases k<;>decide)
    have hm:0 < md k:=by cases k<;>decide
    have e2:((a:Int) - b) % (2 ^ k.bits:Int)=(((a+(md k - b % md k)) % md k:Nat):Int):=by
      have h2:(2 ^ k.bits:Int)=(md k:Int):=by rw [← bits_md];simp
      rw [h2,Int.natCast_emod,Int.natCast_add,Int.natCast_sub (Nat.le_of_lt hb),Int.natCast_emod]
      rw [show (a:Int)+((md k:Int) - (b:Int) % md k)=(a - (b:Int) % md k)+md k from by omega,Int.add_emod_right,Int.sub_emod_emod]
    unfold IntKind.wrap
    simp only [e2,hs,Bool.false_and,Bool.false_eq_true,if_false]
  rwa [e] at this
theorem lop_wquo (ho:o.op=.binOp .quo t x y t') (hx:σ.look x=.p (.v (.int k (a:Int)))) (hy:σ.look y=.p (.v (.int k (b:Int)))) (hb:0 < b) (hs:k.signed=false) (hd:dOk C o.dst=true):LOp C o σ ⟨.p (.v (.int k (((a / b) % md k:Nat):Int))),[]⟩ (fun _=>false):=by
  have:=lop_quo ho hx hy (by omega) hd
  rwa [show (a:Int).tdiv b=((a / b:Nat):Int) from by rw [Int.tdiv_eq_ediv_of_nonneg (by omega)];simp,wrap_md hs] at this
theorem lop_wrem (ho:o.op=.binOp .rem t x y t') (hx:σ.look x=.p (.v (.int k (a:Int)))) (hy:σ.look y=.p (.v (.int k (b:Int)))) (hb:0 < b) (hd:dOk C o.dst=true):LOp C o σ ⟨.p (.v (.int k ((a % b:Nat):Int))),[]⟩ (fun _=>false):=by
  have:=lop_rem' ho hx hy hd (by omega) (by omega)
  rwa [← Int.natCast_emod] at this
theorem lop_bits {op:BinOp} (hop:op=.and∨op=.or∨op=.xor∨op=.andNot) (ho:o.op=.binOp op t x y t') (hx:σ.look x=.p (.v (.int k m))) (hy:σ.look y=.p (.v (.int k n))) (hd:dOk C o.dst=true):LOp C o σ ⟨.p (.v (.int k (bits op k m n))),[]⟩ (fun _=>false):=
  lop_bin ho hx hy (fun w=>by
    rw [Sem.run_bind,eqg_int,Result.andThen_ok]
    rcases hop with rfl|rfl|rfl|rfl<;>simp [binOp_and,binOp_or,binOp_xor,binOp_andNot,intBits_and,intBits_or,intBits_xor,intBits_andNot]) rfl hd
theorem lop_wand (ho:o.op=.binOp .and t x y t') (hx:σ.look x=.p (.v (.int k (a:Int)))) (hy:σ.look y=.p (.v (.int k (b:Int)))) (hs:k.signed=false) (hd:dOk C o.dst=true):LOp C o σ ⟨.p (.v (.int k ((a % md k&&& b % md k:Nat):Int))),[]⟩ (fun _=>false):=by
  have:=lop_bits (.inl rfl) ho hx hy hd;rwa [(bits_nat hs a b).1] at this
theorem lop_wor (ho:o.op=.binOp .or t x y t') (hx:σ.look x=.p (.v (.int k (a:Int)))) (hy:σ.look y=.p (.v (.int k (b:Int)))) (hs:k.signed=false) (hd:dOk C o.dst=true):LOp C o σ ⟨.p (.v (.int k ((a % md k||| b % md k:Nat):Int))),[]⟩ (fun _=>false):=by
  have:=lop_bits (.inr (.inl rfl)) ho hx hy hd;rwa [(bits_nat hs a b).2.1] at this
theorem lop_wxor (ho:o.op=.binOp .xor t x y t') (hx:σ.look x=.p (.v (.int k (a:Int)))) (hy:σ.look y=.p (.v (.int k (b:Int)))) (hs:k.signed=false) (hd:dOk C o.dst=true):LOp C o σ ⟨.p (.v (.int k (((a % md k) ^^^ (b % md k):Nat):Int))),[]⟩ (fun _=>false):=by
  have:=lop_bits (.inr (.inr (.inl rfl))) ho hx hy hd;rwa [(bits_nat hs a b).2.2] at this
theorem lop_wnot (ho:o.op=.unOp .xor t x) (hx:σ.look x=.p (.v (.int k (a:Int)))) (hs:k.signed=false) (hd:dOk C o.dst=true):LOp C o σ ⟨.p (.v (.int k (((md k - 1) ^^^ (a % md k):Nat):Int))),[]⟩ (fun _=>false):=
  lop_val hd fun τ a' w G hl hm h=>by
    have e1:=val_of h ((hl x (by simp [ho,Op.operands])).trans hx)
    have hk:k.max=((md k - 1:Nat):Int):=by cases k<;>simp [IntKind.signed] at hs<;>rfl
    have e2:(Op.unary .xor (.int k (a:Int))).run C.P w=.ok (.int k (((md k - 1) ^^^ (a % md k):Nat):Int)) w:=by
      simp only [Op.unary,hs,Bool.false_eq_true,if_false,hk,intBits_xor,(bits_nat hs _ _).2.2]
      rw [Nat.mod_eq_of_lt (by cases k<;>decide)];rfl
    exact ⟨_,by simp only [execOp,ho,e1,Sem.run_bind,e2,Result.andThen_ok];rfl,rfl,rfl⟩
theorem lop_wshr {yk:IntKind} (ho:o.op=.binOp .shr t x y t') (hx:σ.look x=.p (.v (.int k (a:Int)))) (hy:σ.look y=.p (.v (.int yk n))) (h0:0≤n) (h1:n≤k.bits) (hd:dOk C o.dst=true):LOp C o σ ⟨.p (.v (.int k ((a / 2 ^ n.toNat:Nat):Int))),[]⟩ (fun _=>false):=by
  refine lop_bin ho hx hy (fun w=>?_) rfl hd
  rw [Sem.run_bind]
  have e:(eqGuard .shr t x y (.int k (a:Int)) (.int yk n)).run C.P w=.ok () w:=by unfold eqGuard;simp [pure]
  rw [e,Result.andThen_ok,binOp_shr,shift_shr _ _ _ _ h0 h1]
  simp
theorem lop_wshl {yk:IntKind} (ho:o.op=.binOp .shl t x y t') (hx:σ.look x=.p (.v (.int k (a:Int)))) (hy:σ.look y=.p (.v (.int yk n))) (h0:0≤n) (h1:n≤k.bits) (hs:k.signed=false) (hd:dOk C o.dst=true):LOp C o σ ⟨.p (.v (.int k (((a * 2 ^ n.toNat) % md k:Nat):Int))),[]⟩ (fun _=>false):=by
  refine lop_bin ho hx hy (fun w=>?_) rfl hd
  rw [Sem.run_bind]
  have e:(eqGuard .shl t x y (.int k (a:Int)) (.int yk n)).run C.P w=.ok () w:=by unfold eqGuard;simp [pure]
  rw [e,Result.andThen_ok,binOp_shl,shift_shl _ _ _ _ h0 h1]
  have:(a:Int) * 2 ^ n.toNat=((a * 2 ^ n.toNat:Nat):Int):=by simp
  rw [this,wrap_md hs];rfl
theorem lop_wconv {s d:TypeId} {sz by_:Nat} {ks:TK} {sz' by':Nat} (ho:o.op=.convert s d x) (hT:TI C.P d (.int k') sz by_) (hS:TI C.P s ks sz' by') (hx:σ.look x=.p (.v (.int k (a:Int)))) (hs:k'.signed=false) (hd:dOk C o.dst=true) :
    LOp C o σ ⟨.p (.v (.int k' ((a % md k':Nat):Int))),[]⟩ (fun _=>false):=by
  have:=lop_conv ho hx hd;rwa [wrap_md hs] at this
theorem lit_nat (n:Nat):(@OfNat.ofNat Int n (@instOfNat n))=((n:Nat):Int):=rfl
theorem ofn_nat (n:Nat):Int.ofNat n=((n:Nat):Int):=rfl
theorem lop_wadd' (ho:o.op=.binOp .add t x y t') (hx:σ.look x=.p (.v (.int k m))) (hy:σ.look y=.p (.v (.int k n))) (hma:m=(a:Int)) (hnb:n=(b:Int)) (hs:k.signed=false) (hd:dOk C o.dst=true):LOp C o σ ⟨.p (.v (.int k (((a+b) % md k:Nat):Int))),[]⟩ (fun _=>false):=by
  subst hma hnb;exact lop_wadd ho hx hy hs hd
theorem lop_wmul' (ho:o.op=.binOp .mul t x y t') (hx:σ.look x=.p (.v (.int k m))) (hy:σ.look y=.p (.v (.int k n))) (hma:m=(a:Int)) (hnb:n=(b:Int)) (hs:k.signed=false) (hd:dOk C o.dst=true):LOp C o σ ⟨.p (.v (.int k (((a * b) % md k:Nat):Int))),[]⟩ (fun _=>false):=by
  subst hma hnb;exact lop_wmul ho hx hy hs hd
theorem lop_wsub' (ho:o.op=.binOp .sub t x y t') (hx:σ.look x=.p (.v (.int k m))) (hy:σ.look y=.p (.v (.int k n))) (hma:m=(a:Int)) (hnb:n=(b:Int)) (hs:k.signed=false) (hd:dOk C o.dst=true):LOp C o σ ⟨.p (.v (.int k (((a+(md k - b % md k)) % md k:Nat):Int))),[]⟩ (fun _=>false):=by
  subst hma hnb;exact lop_wsub ho hx hy hs hd
theorem lop_wquo' (ho:o.op=.binOp .quo t x y t') (hx:σ.look x=.p (.v (.int k m))) (hy:σ.look y=.p (.v (.int k n))) (hma:m=(a:Int)) (hnb:n=(b:Int)) (hb:0 < b) (hs:k.signed=false) (hd:dOk C o.dst=true):LOp C o σ ⟨.p (.v (.int k (((a / b) % md k:Nat):Int))),[]⟩ (fun _=>false):=by
  subst hma hnb;exact lop_wquo ho hx hy hb hs hd
theorem lop_wrem' (ho:o.op=.binOp .rem t x y t') (hx:σ.look x=.p (.v (.int k m))) (hy:σ.look y=.p (.v (.int k n))) (hma:m=(a:Int)) (hnb:n=(b:Int)) (hb:0 < b) (hd:dOk C o.dst=true):LOp C o σ ⟨.p (.v (.int k ((a % b:Nat):Int))),[]⟩ (fun _=>false):=by
  subst hma hnb;exact lop_wrem ho hx hy hb hd
theorem lop_wand' (ho:o.op=.binOp .and t x y t') (hx:σ.look x=.p (.v (.int k m))) (hy:σ.look y=.p (.v (.int k n))) (hma:m=(a:Int)) (hnb:n=(b:Int)) (hs:k.signed=false) (hd:dOk C o.dst=true):LOp C o σ ⟨.p (.v (.int k ((a % md k&&& b % md k:Nat):Int))),[]⟩ (fun _=>false):=by
  subst hma hnb;exact lop_wand ho hx hy hs hd
theorem lop_wor' (ho:o.op=.binOp .or t x y t') (hx:σ.look x=.p (.v (.int k m))) (hy:σ.look y=.p (.v (.int k n))) (hma:m=(a:Int)) (hnb:n=(b:Int)) (hs:k.signed=false) (hd:dOk C o.dst=true):LOp C o σ ⟨.p (.v (.int k ((a % md k||| b % md k:Nat):Int))),[]⟩ (fun _=>false):=by
  subst hma hnb;exact lop_wor ho hx hy hs hd
theorem lop_wxor' (ho:o.op=.binOp .xor t x y t') (hx:σ.look x=.p (.v (.int k m))) (hy:σ.look y=.p (.v (.int k n))) (hma:m=(a:Int)) (hnb:n=(b:Int)) (hs:k.signed=false) (hd:dOk C o.dst=true):LOp C o σ ⟨.p (.v (.int k (((a % md k) ^^^ (b % md k):Nat):Int))),[]⟩ (fun _=>false):=by
  subst hma hnb;exact lop_wxor ho hx hy hs hd
theorem lop_wnot' (ho:o.op=.unOp .xor t x) (hx:σ.look x=.p (.v (.int k m))) (hma:m=(a:Int)) (hs:k.signed=false) (hd:dOk C o.dst=true):LOp C o σ ⟨.p (.v (.int k (((md k - 1) ^^^ (a % md k):Nat):Int))),[]⟩ (fun _=>false):=by
  subst hma;exact lop_wnot ho hx hs hd
theorem lop_wshr' {yk:IntKind} (ho:o.op=.binOp .shr t x y t') (hx:σ.look x=.p (.v (.int k m))) (hma:m=(a:Int)) (hy:σ.look y=.p (.v (.int yk n))) (h0:0≤n) (h1:n≤k.bits) (hd:dOk C o.dst=true):LOp C o σ ⟨.p (.v (.int k ((a / 2 ^ n.toNat:Nat):Int))),[]⟩ (fun _=>false):=by
  subst hma;exact lop_wshr ho hx hy h0 h1 hd
theorem lop_wshl' {yk:IntKind} (ho:o.op=.binOp .shl t x y t') (hx:σ.look x=.p (.v (.int k m))) (hma:m=(a:Int)) (hy:σ.look y=.p (.v (.int yk n))) (h0:0≤n) (h1:n≤k.bits) (hs:k.signed=false) (hd:dOk C o.dst=true):LOp C o σ ⟨.p (.v (.int k (((a * 2 ^ n.toNat) % md k:Nat):Int))),[]⟩ (fun _=>false):=by
  subst hma;exact lop_wshl ho hx hy h0 h1 hs hd
theorem lop_wconv' {s d:TypeId} {sz by_:Nat} {ks:TK} {sz' by':Nat} (ho:o.op=.convert s d x) (hT:TI C.P d (.int k') sz by_) (hS:TI C.P s ks sz' by') (hx:σ.look x=.p (.v (.int k m))) (hma:m=(a:Int)) (hs:k'.signed=false) (hd:dOk C o.dst=true) :
    LOp C o σ ⟨.p (.v (.int k' ((a % md k':Nat):Int))),[]⟩ (fun _=>false):=by
  subst hma;exact lop_wconv ho hT hS hx hs hd
end words
/-! ### Arrays whose cells are mapped -/
section arrays
variable {C:Ctx} {o:Oper} {σ:St} {α:Type}
theorem lop_ix_arr {T e:TypeId} {x ix:Operand} {n:Nat} {sz by_:Nat} {ke:TK} {sze be:Nat} {ob g off:Nat} {k:IntKind} {i:Int}
    (ho:o.op=.indexAddr T x ix) (hT:TI C.P T (.array n e) sz by_) (he:TI C.P e ke sze be) (hx:σ.look x=.o (.ptr ob g off)) (hi:σ.look ix=.p (.v (.int k i))) (h0:0≤i) (hb:i < n) (hd:dOk C o.dst=true):LOp C o σ ⟨.o (.ptr ob g (off+i.toNat * sze)),[]⟩ (fun _=>false):=lop_indexAddr_arr ho hx hi ⟨h0,hb⟩ hd
theorem lop_ld_arr {f:α→AC} {l:List α} {T:TypeId} {x:Operand} {k:TK} {sz by_:Nat} {ob g n i:Nat} {ty:TypeId} {c:AC} (ho:o.op=.load T x) (hT:TI C.P T k sz by_) (hx:σ.look x=.o (.ptr ob g (0+i * 1))) (hm:σ.mem ob=(n,some (.box ty (l.map f)))) (hI:Inhabited α) (hn:n=g+1)
    (hk:k.agg=false) (hs:sz=1) (hi:i < l.length) (hc:f (l.getD i default)=c) (hd:dOk C o.dst=true):LOp C o σ ⟨.o c,[]⟩ (fun y=>y == ob):=by
  refine lop_load_one (o:=o) ho hx hm hn hk hs ?_ hd
  simp [List.getD_eq_getElem?_getD,hi] at hc ⊢
  exact hc
theorem lop_st_arr {f:α→AC} {l:List α} {v:α} {T:TypeId} {x y:Operand} {k:TK} {sz by_:Nat} {ob g n i:Nat} {ty:TypeId} {c:AC} (ho:o.op=.store T x y) (hT:TI C.P T k sz by_) (hdst:o.dst=none) (hx:σ.look x=.o (.ptr ob g (0+i * 1))) (hy:σ.look y=.o c) (hm:σ.mem ob=(n,some (.box ty (l.map f)))) (hn:n=g+1) (hs:sz=1)
    (hc:c=f v) (hi:i < l.length):LOp C o σ ⟨.un,[(ob,(n,some (.box ty ((l.set i v).map f))))]⟩ (fun z=>z == ob):=by
  have:=lop_store_one (C:=C) (o:=o) (hT:=hT) ho hdst hx hy hm hn (by simpa using hi) hs
  rw [hc,← List.map_set] at this
  simpa using this
theorem lop_sl_lhm {T e:TypeId} {sz by_ es be:Nat} {ke:TK} {f:α→List PVal} {l:List α} {ex:Bool} {x xl xh xm:Operand} {kl kh km:IntKind} {lo hi mx:Int} (ho:o.op=.slice T x (some xl) (some xh) (some xm)) (hT:TI C.P T (.slice e) sz by_) (he:TI C.P e ke es be) (hx:σ.look x=.p (.sl es (l.map f) ex)) (hlo:σ.look xl=.p (.v (.int kl lo))) (hhi:σ.look xh=.p (.v (.int kh hi))) (hmx:σ.look xm=.p (.v (.int km mx))) (h0:0≤lo) (h01:lo≤hi) (hm:mx=hi) (h1:hi≤l.length) (hd:dOk C o.dst=true) :
    LOp C o σ ⟨.p (.sl es (((l.drop lo.toNat).take (hi.toNat - lo.toNat)).map f) true),[]⟩ (fun _=>false):=by
  have:=lop_slice_lhm (o:=o) ho hx hlo hhi hmx h0 h01 hm (by simpa using h1) hd
  rwa [← List.map_drop,← List.map_take] at this
end arrays
/-! ### Functions' values -/
def fbx (ps:List PVal):AObj where
  holds X b fp:=fp=[]∧X.S b∧∃ arr ty,X.w.heap[b]?=some (.cells (List.toArray arr) ty (0,0))∧All2 (fun p c=>p.holds X c) ps arr
  mono:=by
    rintro x y b fp hle hfp ⟨h1,h2,arr,ty,h3,h4⟩
    exact ⟨h1,(hle b h2).1,arr,ty,(hle b h2).2.trans h3,h4.mono fun p c hp=>p.mono hle hp⟩
structure Cap where
  o:Nat
  n:Nat
  ty:TypeId
  ps:List PVal
def Cap.upd (q:Cap):Nat × (Nat × Option MO):=(q.o,(q.n+1,some (.abs (fbx q.ps))))
theorem freeze_list {C:Ctx} {a:Act} {w:World}:∀ (l:List Cap) {τ:St} {G:Gh},(l.map (·.o)).Nodup→(∀ q∈l,τ.mem q.o=(q.n+1,some (.box q.ty (q.ps.map .p))))→RelG C τ a w G→
    ∃ G',RelG C (τ.puts (l.map Cap.upd)) a w G'∧G'.μ=G.μ∧(∀ b,G.S b→G'.S b)
  | [],τ,G,_,_,h=>⟨G,h,rfl,fun _ h=>h⟩
  | q::l,τ,G,hnd,hm,h=>by
    rw [List.map_cons,List.nodup_cons] at hnd
    obtain ⟨G1,h1,e1,s1⟩:=freeze_list l hnd.2 (fun r hr=>hm r (by simp [hr])) h
    have hq:(τ.puts (l.map Cap.upd)).mem q.o=(q.n+1,some (.box q.ty (q.ps.map .p))):=by
      rw [St.puts_mem _ _ _ fun y m hy he=>?_]
      · exact hm q (by simp)
      · obtain ⟨r,hr,hre⟩:=List.mem_map.1 hy
        simp [Cap.upd] at hre
        exact hnd.1 (List.mem_map.2 ⟨r,hr,hre.1.trans he.symm⟩)
    have h2:=h1.freeze (o:=q.o) (mo':=some (.abs (fbx q.ps))) hq (fun x hx=>by
      obtain rfl:=Option.some.inj hx
      obtain ⟨g,m,k1,k2,b,arr,k3,k4,k5,k6⟩:=h1.mem q.o _ _ hq
      refine ⟨g,m,k1,k2,b,k3,rfl,.inr (by rw [k4];simp),arr,q.ty,k5,?_⟩
      refine ⟨by simpa using k6.1,fun i p c hp hc=>?_⟩
      exact p.mono (x:=⟨w,G1.S⟩) (fun b hb=>⟨.inl hb,rfl⟩) (k6.2 i (.p p) c (by simp [hp]) hc))
    exact ⟨_,h2,e1,fun b hb=>.inl (s1 b hb)⟩
section funcs
variable {C:Ctx} {o:Oper} {σ:St}
theorem lop_mf {f:FuncId} {cs:Array Operand} {l:List Cap} (ho:o.op=.makeFunc (.func f) #[] cs) (ha:All2 (fun x (q:Cap)=>σ.look x=.o (.ptr q.o q.n 0)) cs.toList l) (hm:∀ q∈l,σ.mem q.o=(q.n+1,some (.box q.ty (q.ps.map .p)))) (hnd:(l.map (·.o)).Nodup) (hd:dOk C o.dst=true) :
    LOp C o σ ⟨.p (.fnv f (l.map fun q=>.bx q.ps 0)),l.map Cap.upd⟩ (fun x=>l.any fun q=>q.o == x):=by
  refine ⟨fun x m h=>?_,fun τ hlk hmm a w ⟨G,h⟩ K Q hK=>?_⟩
  · obtain ⟨q,hq,he⟩:=List.mem_map.1 h
    simp [Cap.upd] at he
    exact List.any_eq_true.2 ⟨q,hq,by simp [he.1]⟩
  · have hm':∀ q∈l,τ.mem q.o=(q.n+1,some (.box q.ty (q.ps.map .p))):=fun q hq=>(hmm q.o (List.any_eq_true.2 ⟨q,hq,by simp⟩)).trans (hm q hq)
    obtain ⟨G',h',e1,s1⟩:=freeze_list l hnd hm' h
    refine wpIn_exec (by rw [ho];intro c h;cases h) ?_
    have hrun:(execOp a.eval o).run C.P w=.ok (.value (.func (.func f) #[] (cs.map a.eval))) w:=by
      simp [execOp,ho,Instr.makeFunc]
    rw [hrun,Oper.uponIn_value]
    refine hK _ _ ⟨_,h'.setv hd ⟨cs.toList.map a.eval,by rw [← Array.toList_map],?_⟩⟩
    refine ⟨by simp [ha.1],fun i p v hp hv=>?_⟩
    rw [List.getElem?_map] at hp hv
    cases hq:l[i]? with
    | none=>rw [hq] at hp;cases hp
    | some q=>
      rw [hq] at hp;simp at hp;subst hp
      cases hx:cs.toList[i]? with
      | none=>rw [hx] at hv;cases hv
      | some x=>
        rw [hx] at hv;simp at hv;subst hv
        have hqm:=List.mem_of_getElem? hq
        have hlx:τ.look x=.o (.ptr q.o q.n 0):=(hlk x (by rw [ho];simp [Op.operands];simpa using List.mem_of_getElem? hx)).trans (ha.2 i x q hx hq)
        have hh:=h.look x
        rw [hlx] at hh
        obtain ⟨b,c,k1,k2⟩:=hh
        -- the object, as it lies now
        have hmem:(τ.puts (l.map Cap.upd)).mem q.o=(q.n+1,some (.abs (fbx q.ps))):=by
          clear h' hK hm' ha hx hlk hmm hm hrun
          have:∀ (l:List Cap),(l.map (·.o)).Nodup→q∈l→(τ.puts (l.map Cap.upd)).mem q.o=(q.n+1,some (.abs (fbx q.ps))):=by
            intro l
            induction l with
            | nil=>intro _ hq;cases hq
            | cons r l ih=>
              intro hnd hq
              rw [List.map_cons,List.nodup_cons] at hnd
              rcases List.mem_cons.1 hq with rfl|hq
              · simp [Cap.upd,St.puts,St.put]
              · have hne:q.o≠r.o:=fun e=>hnd.1 (List.mem_map.2 ⟨q,hq,e⟩)
                simp only [List.map_cons,Cap.upd,St.puts,St.put,hne,if_false]
                exact ih hnd.2 hq
          exact this l hnd hqm
        obtain ⟨g',m',j1,j2,b',j3,_,j4,arr,ty,j5,j6⟩:=h'.mem q.o _ _ hmem
        obtain rfl:q.n=g':=by omega
        rw [e1,k1] at j2
        obtain rfl:=Option.some.inj j2
        simp only [Option.some.injEq] at j3
        subst j3
        exact ⟨b,arr,ty,k2,j4,j5,j6⟩
theorem pm1 {a0:PVal}:[AC.p a0]=[a0].map .p:=rfl
theorem pm2 {a0 a1:PVal}:[AC.p a0,.p a1]=[a0,a1].map .p:=rfl
theorem pm3 {a0 a1 a2:PVal}:[AC.p a0,.p a1,.p a2]=[a0,a1,a2].map .p:=rfl
theorem pm4 {a0 a1 a2 a3:PVal}:[AC.p a0,.p a1,.p a2,.p a3]=[a0,a1,a2,a3].map .p:=rfl
theorem pm5 {a0 a1 a2 a3 a4:PVal}:[AC.p a0,.p a1,.p a2,.p a3,.p a4]=[a0,a1,a2,a3,a4].map .p:=rfl
theorem pm6 {a0 a1 a2 a3 a4 a5:PVal}:[AC.p a0,.p a1,.p a2,.p a3,.p a4,.p a5]=[a0,a1,a2,a3,a4,a5].map .p:=rfl
theorem lop_mf1 {f:FuncId} {x0:Operand} {o0 g0 n0 ty0:Nat} {cs0:List AC} {ps0:List PVal} (ho:o.op=.makeFunc (.func f) #[] #[x0]) (h0:σ.look x0=.o (.ptr o0 g0 0)) (hm0:σ.mem o0=(n0,some (.box ty0 cs0))) (hn0:n0=g0+1) (hc0:cs0=ps0.map .p) (hd:dOk C o.dst=true) :
    LOp C o σ ⟨.p (.fnv f [.bx ps0 0]),[(o0,(g0+1,some (.abs (fbx ps0))))]⟩ (fun x=>[o0].any (· == x)):=by
  subst hn0 hc0
  have:=lop_mf (C:=C) (o:=o) (σ:=σ) (l:=[⟨o0,g0,ty0,ps0⟩]) ho (.cons h0 .nil) (by simpa using hm0) (by simp) hd
  simpa [Cap.upd] using this
theorem lop_mf2 {f:FuncId} {x0 x1:Operand} {o0 g0 n0 ty0 o1 g1 n1 ty1:Nat} {cs0 cs1:List AC} {ps0 ps1:List PVal} (ho:o.op=.makeFunc (.func f) #[] #[x0,x1]) (h0:σ.look x0=.o (.ptr o0 g0 0)) (hm0:σ.mem o0=(n0,some (.box ty0 cs0))) (hn0:n0=g0+1) (hc0:cs0=ps0.map .p)
    (h1:σ.look x1=.o (.ptr o1 g1 0)) (hm1:σ.mem o1=(n1,some (.box ty1 cs1))) (hn1:n1=g1+1) (hc1:cs1=ps1.map .p) (hne:o0≠o1) (hd:dOk C o.dst=true) :
    LOp C o σ ⟨.p (.fnv f [.bx ps0 0,.bx ps1 0]),[(o0,(g0+1,some (.abs (fbx ps0)))),(o1,(g1+1,some (.abs (fbx ps1))))]⟩ (fun x=>[o0,o1].any (· == x)):=by
  subst hn0 hc0 hn1 hc1
  have:=lop_mf (C:=C) (o:=o) (σ:=σ) (l:=[⟨o0,g0,ty0,ps0⟩,⟨o1,g1,ty1,ps1⟩]) ho (.cons h0 (.cons h1 .nil)) (by intro q hq;simp at hq;rcases hq with rfl|rfl;exact hm0;exact hm1) (by simp [hne]) hd
  simpa [Cap.upd] using this
theorem lop_ld_bx {T:TypeId} {x:Operand} {k:TK} {sz by_:Nat} {ps:List PVal} {off:Nat} {p:PVal} (ho:o.op=.load T x) (hT:TI C.P T k sz by_) (hx:σ.look x=.p (.bx ps off)) (hk:k.agg=false) (hs:sz=1) (hp:ps[off]?=some p) (hd:dOk C o.dst=true):LOp C o σ ⟨.p p,[]⟩ (fun _=>false):=
  lop_val hd fun τ a w G hl hm h=>by
    obtain ⟨b,cs,ty,h1,h2,h3,h4⟩:=look_of h ((hl x (by simp [ho,Op.operands])).trans hx)
    obtain ⟨v,hv,hh⟩:=h4.get hp
    have hlt:off < cs.length:=(List.getElem?_eq_some_iff.1 hv).1
    have hr:=run_loadVar (P:=C.P) hT (w:=w) (b:=b) (off:=off) (arr:=cs) (ty:=ty) (fr:=(0,0)) h3 (by omega) (by simp [hs])
    simp only [hk,Bool.false_eq_true,if_false] at hr
    have:cs.getD off undef=v:=by simp [List.getD_eq_getElem?_getD,hv]
    rw [this] at hr
    exact ⟨v,by simp [execOp,ho,h1,Instr.loadAt,Instr.sureAddr,hr],hh⟩
theorem lop_ld_bxa {T:TypeId} {x:Operand} {k:TK} {sz by_:Nat} {ps:List PVal} (ho:o.op=.load T x) (hT:TI C.P T k sz by_) (hx:σ.look x=.p (.bx ps 0)) (hk:k.agg=true) (hs:ps.length=sz) (hd:dOk C o.dst=true):LOp C o σ ⟨.a (ps.map .p),[]⟩ (fun _=>false):=
  lop_val hd fun τ a w G hl hm h=>by
    obtain ⟨b,cs,ty,h1,h2,h3,h4⟩:=look_of h ((hl x (by simp [ho,Op.operands])).trans hx)
    have hr:=run_loadVar (P:=C.P) hT (w:=w) (b:=b) (off:=0) (arr:=cs) (ty:=ty) (fr:=(0,0)) h3 (by have:=h4.1;omega) (by simp [hk])
    simp only [hk,if_true,List.drop_zero] at hr
    rw [List.take_of_length_le (by have:=h4.1;omega)] at hr
    refine ⟨_,by simp [execOp,ho,h1,Instr.loadAt,Instr.sureAddr,hr],cs,rfl,by simpa using h4.1,fun i c v hc hv=>?_⟩
    rw [List.getElem?_map] at hc
    cases hp:ps[i]? with
    | none=>rw [hp] at hc;cases hc
    | some p=>rw [hp] at hc;simp at hc;subst hc;exact h4.2 i p v hp hv
theorem lop_ld_fbx {T:TypeId} {x:Operand} {k:TK} {sz by_:Nat} {ob g off n:Nat} {ps:List PVal} {p:PVal} (ho:o.op=.load T x) (hT:TI C.P T k sz by_) (hx:σ.look x=.o (.ptr ob g off)) (hm:σ.mem ob=(n,some (.abs (fbx ps)))) (hn:n=g+1) (hk:k.agg=false) (hs:sz=1) (hp:ps[off]?=some p) (hd:dOk C o.dst=true):LOp C o σ ⟨.p p,[]⟩ (fun y=>y == ob):=
  lop_val hd fun τ a w G hl hm' h=>by
    subst hn
    obtain ⟨b,c',h1,h2⟩:=look_of h ((hl x (by simp [ho,Op.operands])).trans hx)
    obtain ⟨g',m',hg,hmm,b',h4,_,h5,cs,ty,h6,h7⟩:=h.mem ob _ _ (by rw [hm' ob (by simp)];exact hm)
    obtain rfl:g=g':=by omega
    rw [h1] at hmm;obtain rfl:=Option.some.inj hmm
    simp only [Option.some.injEq] at h4;subst h4
    obtain ⟨v,hv,hh⟩:=h7.get hp
    have hlt:off < cs.length:=(List.getElem?_eq_some_iff.1 hv).1
    have hr:=run_loadVar (P:=C.P) hT (w:=w) (b:=b) (off:=off) (arr:=cs) (ty:=ty) (fr:=(0,0)) h6 (by omega) (by simp [hs])
    simp only [hk,Bool.false_eq_true,if_false] at hr
    have:cs.getD off undef=v:=by simp [List.getD_eq_getElem?_getD,hv]
    rw [this] at hr
    exact ⟨v,by simp [execOp,ho,h2,Instr.loadAt,Instr.sureAddr,hr],hh⟩
end funcs
end Go.Aw
/- THE ABSTRACT WALK, part 20: stores in a region that draws; steps over words. Nothing here speaks of a program. -/
namespace Go.Aw
open Go Go.RowKit
set_option linter.unusedVariables false
set_option linter.unusedSimpArgs false
theorem ex2 {α β:Type} {p:α × β→Prop} (a:α) {b:β} (h:p (a,b)):∃ x,p x:=⟨(a,b),h⟩
theorem ex3 {α β γ:Type} {p:α × β × γ→Prop} (a:α) (b:β) {c:γ} (h:p (a,b,c)):∃ x,p x:=⟨(a,b,c),h⟩
theorem lopW {C:Ctx} {o:Oper} {σ:St} {e:Eff} {ro:Nat→Bool} (h:LOp C o σ e ro:=by
    first
      | exact lop_wadd' rfl rfl rfl (by with_reducible (first|rfl|exact lit_nat _|exact ofn_nat _)) (by with_reducible (first|rfl|exact lit_nat _|exact ofn_nat _)) rfl rfl
            | exact lop_wmul' rfl rfl rfl (by with_reducible (first|rfl|exact lit_nat _|exact ofn_nat _)) (by with_reducible (first|rfl|exact lit_nat _|exact ofn_nat _)) rfl rfl
            | exact lop_wsub' rfl rfl rfl (by with_reducible (first|rfl|exact lit_nat _|exact ofn_nat _)) (by with_reducible (first|rfl|exact lit_nat _|exact ofn_nat _)) rfl rfl
            | exact lop_wquo' rfl rfl rfl (by with_reducible (first|rfl|exact lit_nat _|exact ofn_nat _)) (by with_reducible (first|rfl|exact lit_nat _|exact ofn_nat _)) (by decide) rfl rfl
            | exact lop_wrem' rfl rfl rfl (by with_reducible (first|rfl|exact lit_nat _|exact ofn_nat _)) (by with_reducible (first|rfl|exact lit_nat _|exact ofn_nat _)) (by decide) rfl
            | exact lop_wand' rfl rfl rfl (by with_reducible (first|rfl|exact lit_nat _|exact ofn_nat _)) (by with_reducible (first|rfl|exact lit_nat _|exact ofn_nat _)) rfl rfl
            | exact lop_wor' rfl rfl rfl (by with_reducible (first|rfl|exact lit_nat _|exact ofn_nat _)) (by with_reducible (first|rfl|exact lit_nat _|exact ofn_nat _)) rfl rfl
            | exact lop_wxor' rfl rfl rfl (by with_reducible (first|rfl|exact lit_nat _|exact ofn_nat _)) (by with_reducible (first|rfl|exact lit_nat _|exact ofn_nat _)) rfl rfl
            | exact lop_wnot' rfl rfl (by with_reducible (first|rfl|exact lit_nat _|exact ofn_nat _)) rfl rfl
            | exact lop_wshr' rfl rfl (by with_reducible (first|rfl|exact lit_nat _|exact ofn_nat _)) rfl (by first|decide|omega) (by first|decide|(simp only [IntKind.bits];omega)) rfl
            | exact lop_wshl' rfl rfl (by with_reducible (first|rfl|exact lit_nat _|exact ofn_nat _)) rfl (by first|decide|omega) (by first|decide|(simp only [IntKind.bits];omega)) rfl rfl
            | (apply lop_wconv';(focus rfl);(focus exact inferInstance);(focus exact inferInstance);(focus rfl);(focus exact (by with_reducible (first|rfl|exact lit_nat _|exact ofn_nat _)));(focus rfl);(focus rfl))
      | exact lopA):LOp C o σ e ro:=h
section steps
variable {C:Ctx} {ops:Array Oper} {o:Oper} {rest:List Oper} {K:St→Prop} {σ:St} {e:Eff} {ro:Nat→Bool} {W:List (Nat × Nat)} {i:Nat}
theorem rk_sto (hg:Guard ops σ o true) (hd':o.dst=none) (h:LOp C o σ e ro) (hro:∀ x,ro x=true→okObj ops W i x=true) (hob:∀ p∈e.obj,(i,p.1)∈W) (hk:RunK C ops W (i+1) rest K (e.app none σ)):RunK C ops W i (o::rest) K σ:=by
  rw [← hd'] at hk;exact ⟨_,.inl ⟨hg,by rw [hd'];rfl,ro,h,hro,fun x m hx=>hob (x,m) hx⟩,hk⟩
theorem rkS (hg:Guard ops σ o true:=by first|exact gd_n rfl rfl|exact gd_t rfl rfl rfl rfl|exact gd_t rfl rfl rfl (by assumption)) (hd':o.dst=none:=by rfl) (h:LOp C o σ e ro:=by exact stoA) (hro:∀ x,ro x=true→okObj ops W i x=true:=by first|exact fun _=>ro_none|exact ro_one rfl|exact ro_one (by kernel_rfl)|exact ro_kIn (by decide)) (hob:∀ p∈e.obj,(i,p.1)∈W:=by first|exact ob_none|exact ob_one (by decide)|decide) (hk:RunK C ops W (i+1) rest K (e.app none σ)):RunK C ops W i (o::rest) K σ:=rk_sto hg hd' h hro hob hk
theorem rnAW {d:Nat} (hg:Guard ops σ o true:=by first|exact gd_n rfl rfl|exact gd_t rfl rfl rfl rfl|exact gd_t rfl rfl rfl (by assumption)) (hd:o.dst=some d:=by rfl) (h:LOp C o σ e ro:=by exact lopW) (hk:RunN C ops rest K (e.app (some d) σ)):RunN C ops (o::rest) K σ:=rn_any hg hd h hk
theorem rkAW {d:Nat} (hg:Guard ops σ o true:=by first|exact gd_n rfl rfl|exact gd_t rfl rfl rfl rfl|exact gd_t rfl rfl rfl (by assumption)) (hd':o.dst=some d:=by rfl) (hd:dOk C o.dst=true:=by rfl) (h:LOp C o σ e ro:=by exact lopW) (hro:∀ x,ro x=true→okObj ops W i x=true:=by first|exact fun _=>ro_none|exact ro_one rfl|exact ro_one (by kernel_rfl)|exact ro_kIn (by decide)) (hob:∀ p∈e.obj,(i,p.1)∈W:=by first|exact ob_none|exact ob_one (by decide)|decide) (hk:RunK C ops W (i+1) rest K (e.app (some d) σ)):RunK C ops W i (o::rest) K σ:=rk_wr hg hd' hd h hro hob hk
end steps
/-! ### Arrays written out -/
theorem sn16 {x:Option (List AC)} {c0 c1 c2 c3 c4 c5 c6 c7 c8 c9 c10 c11 c12 c13 c14 c15:AC} (h:x=some [c0,c1,c2,c3,c4,c5,c6,c7,c8,c9,c10,c11,c12,c13,c14,c15]):x=some [c0,c1,c2,c3,c4,c5,c6,c7,c8,c9,c10,c11,c12,c13,c14,c15]:=h
theorem sn21 {x:Option (List AC)} {c0 c1 c2 c3 c4 c5 c6 c7 c8 c9 c10 c11 c12 c13 c14 c15 c16 c17 c18 c19 c20:AC} (h:x=some [c0,c1,c2,c3,c4,c5,c6,c7,c8,c9,c10,c11,c12,c13,c14,c15,c16,c17,c18,c19,c20]):x=some [c0,c1,c2,c3,c4,c5,c6,c7,c8,c9,c10,c11,c12,c13,c14,c15,c16,c17,c18,c19,c20]:=h
theorem sn32 {x:Option (List AC)} {c0 c1 c2 c3 c4 c5 c6 c7 c8 c9 c10 c11 c12 c13 c14 c15 c16 c17 c18 c19 c20 c21 c22 c23 c24 c25 c26 c27 c28 c29 c30 c31:AC} (h:x=some [c0,c1,c2,c3,c4,c5,c6,c7,c8,c9,c10,c11,c12,c13,c14,c15,c16,c17,c18,c19,c20,c21,c22,c23,c24,c25,c26,c27,c28,c29,c30,c31]):x=some [c0,c1,c2,c3,c4,c5,c6,c7,c8,c9,c10,c11,c12,c13,c14,c15,c16,c17,c18,c19,c20,c21,c22,c23,c24,c25,c26,c27,c28,c29,c30,c31]:=h
theorem sn64 {x:Option (List AC)} {c0 c1 c2 c3 c4 c5 c6 c7 c8 c9 c10 c11 c12 c13 c14 c15 c16 c17 c18 c19 c20 c21 c22 c23 c24 c25 c26 c27 c28 c29 c30 c31 c32 c33 c34 c35 c36 c37 c38 c39 c40 c41 c42 c43 c44 c45 c46 c47 c48 c49 c50 c51 c52 c53 c54 c55 c56 c57 c58 c59 c60 c61 c62 c63:AC} (h:x=some [c0,c1,c2,c3,c4,c5,c6,c7,c8,c9,c10,c11,c12,c13,c14,c15,c16,c17,c18,c19,c20,c21,c22,c23,c24,c25,c26,c27,c28,c29,c30,c31,c32,c33,c34,c35,c36,c37,c38,c39,c40,c41,c42,c43,c44,c45,c46,c47,c48,c49,c50,c51,c52,c53,c54,c55,c56,c57,c58,c59,c60,c61,c62,c63]):x=some [c0,c1,c2,c3,c4,c5,c6,c7,c8,c9,c10,c11,c12,c13,c14,c15,c16,c17,c18,c19,c20,c21,c22,c23,c24,c25,c26,c27,c28,c29,c30,c31,c32,c33,c34,c35,c36,c37,c38,c39,c40,c41,c42,c43,c44,c45,c46,c47,c48,c49,c50,c51,c52,c53,c54,c55,c56,c57,c58,c59,c60,c61,c62,c63]:=h
theorem bp_cons {σ:St} {k:Nat} {x:Operand} {c:AC} {l:List (Nat × Operand)} {ps:List (Nat × List AC)} (hx:σ.look x=.o c) (h:All2 (fun (x:Nat × Operand) (p:Nat × List AC)=>x.1=p.1∧∃ s,σ.look x.2=.s s∧s.cells=p.2) l ps) :
    All2 (fun (x:Nat × Operand) (p:Nat × List AC)=>x.1=p.1∧∃ s,σ.look x.2=.s s∧s.cells=p.2) ((k,x)::l) ((k,[c])::ps):=.cons ⟨rfl,_,hx,rfl⟩ h
theorem lop_build_ar {C:Ctx} {o:Oper} {σ:St} {T e:TypeId} {parts:Array (Nat × Operand)} {n sz by_:Nat} {ke:TK} {sze be:Nat} {z:List Value} {ps:List (Nat × List AC)} {cs:List AC} (ho:o.op=.build T parts) (hT:TI C.P T (.array n e) sz by_) (he:TI C.P e ke sze be) (hz:TZ C.P T z)
    (hp:All2 (fun (x:Nat × Operand) (p:Nat × List AC)=>x.1=p.1∧∃ s,σ.look x.2=.s s∧s.cells=p.2) parts.toList ps) (h1:z.all (·.oneCell')=true)
    (hb:bfill (fun i=>some (i * sze,sze)) (z.map fun v=>.p (.v v)) ps=some cs) (hd:dOk C o.dst=true):LOp C o σ ⟨.a cs,[]⟩ (fun _=>false):=lop_build_arr ho hp h1 hb hd
theorem lop_ixv {C:Ctx} {o:Oper} {σ:St} {α:Type} {f:α→AC} {l:List α} {T e:TypeId} {x ix:Operand} {n:Nat} {sz by_:Nat} {ke:TK} {sze be:Nat} {c:AC} {k:IntKind} {i:Int}
    (ho:o.op=.index T x ix) (hT:TI C.P T (.array n e) sz by_) (he:TI C.P e ke sze be) (hx:σ.look x=.a (l.map f)) (hi:σ.look ix=.p (.v (.int k i))) (hI:Inhabited α) (h0:0≤i) (hb:i < n) (hl:i < l.length) (hk:ke.agg=false) (hs:sze=1) (hc:f (l.getD i.toNat default)=c) (hd:dOk C o.dst=true) :
    LOp C o σ ⟨.o c,[]⟩ (fun _=>false):=by
  refine lop_index_arr1 (o:=o) ho hx hi ⟨h0,hb⟩ hk hs ?_ hd
  have:i.toNat < l.length:=by omega
  simp [List.getD_eq_getElem?_getD,this] at hc ⊢
  exact hc
end Go.Aw
/- THE ABSTRACT WALK, part 21: what slices.Grow needs: append(nil, make(..)...), cap, an own slice cut short. Nothing here speaks of a program. -/
namespace Go.Aw
open Go Go.RowKit
set_option linter.unusedVariables false
set_option linter.unusedSimpArgs false
section ops
variable {C:Ctx} {o:Oper} {σ:St}
theorem lop_cap_nil {T e:TypeId} {x:Operand} {sz by_:Nat} [hT:TI C.P T (.slice e) sz by_] {n c:Nat} {b:Option Addr} (ho:o.op=.call ⟨.builtin .cap,#[x],#[T]⟩) (hx:σ.look x=.p (.v (.slice b n c))) (hd:dOk C o.dst=true) :
    LOp C o σ ⟨.p (.v (.int .i64 c)),[]⟩ (fun _=>false):=
  lop_val hd fun τ a w G hl' hm' h=>by
    have h1:=val_of h ((hl' x (by simp [ho,Op.operands,Call.operands])).trans hx)
    obtain ⟨d,hdd,hkk⟩:=hT.undd
    have:d=.slice e:=by cases d<;>simp [TK.of] at hkk;rw [hkk]
    subst this
    exact ⟨.int .i64 c,by simp [execOp,ho,resolve,invoke,builtin,Builtin.cap_,h1,run_underlying hdd,goInt],rfl,rfl⟩
theorem lop_sl_n0 {T e:TypeId} {x xh:Operand} {sz by_:Nat} [hT:TI C.P T (.slice e) sz by_] {ke:TK} {sze be:Nat} [he:TI C.P e ke sze be] {kh:IntKind} (ho:o.op=.slice T x none (some xh) none) (hx:σ.look x=.p (.v (.slice none 0 0))) (hh:σ.look xh=.p (.v (.int kh 0))) (hd:dOk C o.dst=true) :
    LOp C o σ ⟨.p (.v (.slice none 0 0)),[]⟩ (fun _=>false):=
  lop_val hd fun τ a w G hl hm' h=>by
    have h1:=val_of h ((hl x (by simp [ho,Op.operands])).trans hx)
    have h2:=val_of h ((hl xh (by simp [ho,Op.operands])).trans hh)
    obtain ⟨d,hdd,hkk⟩:=hT.undd
    have:d=.slice e:=by cases d<;>simp [TK.of] at hkk;rw [hkk]
    subst this
    refine ⟨.slice none 0 0,?_,rfl,rfl⟩
    have e1:(Instr.sliceBounds true 0 0 none (some (.int kh 0)) none).run C.P w=.ok (0,0,0) w:=by simp [Instr.sliceBounds,run_sb (y:=0) (i:=0) (by omega) (by omega)]
    simp only [execOp,ho,Instr.sliceAt,Sem.run_bind,run_underlying hdd,Result.andThen_ok,Instr.slice,h1,h2,Option.map_none,Option.map_some,e1,he.run_sizeOf,Sem.run_pure]
    rfl
theorem lop_sl_oh {T e:TypeId} {x xh:Operand} {sz by_:Nat} [hT:TI C.P T (.slice e) sz by_] {ke:TK} {sze be:Nat} [he:TI C.P e ke sze be] {kh:IntKind} {hi:Int} {ob g es len:Nat} (ho:o.op=.slice T x none (some xh) none) (hx:σ.look x=.o (.osl ob g es 0 len)) (hh:σ.look xh=.p (.v (.int kh hi)))
    (h0:0≤hi) (h1:hi≤len) (hd:dOk C o.dst=true) :
    LOp C o σ ⟨.o (.osl ob g es 0 hi.toNat),[]⟩ (fun _=>false):=
  lop_val hd fun τ a w G hl hm' h=>by
    obtain ⟨m,c,p1,p2,p3⟩:=look_of h ((hl x (by simp [ho,Op.operands])).trans hx)
    have h2:=val_of h ((hl xh (by simp [ho,Op.operands])).trans hh)
    obtain ⟨d,hdd,hkk⟩:=hT.undd
    have:d=.slice e:=by cases d<;>simp [TK.of] at hkk;rw [hkk]
    subst this
    refine ⟨.slice (m.map fun b=>⟨b,0,none⟩) hi.toNat c,?_,m,c,p1,by omega,by simp⟩
    have e1:(Instr.sliceBounds true len c none (some (.int kh hi)) none).run C.P w=.ok (0,hi.toNat,c) w:=by simp [Instr.sliceBounds,run_sb (y:=c) h0 (by omega)]
    simp only [Nat.sub_zero,Nat.zero_mul] at p3
    simp only [execOp,ho,Instr.sliceAt,Sem.run_bind,run_underlying hdd,Result.andThen_ok,Instr.slice,p3,h2,Option.map_none,Option.map_some,e1,he.run_sizeOf,Sem.run_pure]
    cases m<;>simp [Addr.add]
theorem lop_ap_z {T I e:TypeId} {x y:Operand} {sz by_ szi byi:Nat} {kn k:IntKind} [hT:TI C.P T (.slice e) sz by_] [hI:TI C.P I (.int kn) szi byi] {ke:TK} {es be:Nat} [he:TI C.P e ke es be] {z:List Value} [hz:TZ C.P e z] {d n:Nat} {mo0:Option MO} {m:Nat} {v:Int}
    (ho:o.op=.call ⟨.builtin .append,#[x,y],#[T,I]⟩) (hdst:o.dst=some d) (hx:σ.look x=.p (.v (.slice none 0 0))) (hy:σ.look y=.p (.v (.int k v))) (hvm:v=m) (hm:σ.mem d=(n,mo0)) (hes:0 < es) (hzl:z.length=es)
    (h0:0 < m) (h63:m≤maxLen) (hby:m * be≤140737488355328) (hd:dOk C o.dst=true) :
    LOp C o σ ⟨.o (.osl d n es 0 m),[(d,(n+1,some (.buf e es [])))]⟩ (fun q=>q == d):=
  lop_gen (by simp) hd hm fun τ a w G hl hm' h=>by
    subst hvm
    have hv:=val_of h ((hl x (by simp [ho,Op.operands,Call.operands])).trans hx)
    have hw:=val_of h ((hl y (by simp [ho,Op.operands,Call.operands])).trans hy)
    have hlen:(G.μ d).length=n:=by have:=h.gens d;rw [hm' d (by simp),hm] at this;exact this
    obtain ⟨dd,hdd,hkk⟩:=hT.undd
    have:dd=.slice e:=by cases dd<;>simp [TK.of] at hkk;rw [hkk]
    subst this
    obtain ⟨di,hdi,hki⟩:=hI.undd
    have:di=.int kn:=by cases di<;>simp [TK.of] at hki;rw [hki]
    subst this
    obtain ⟨i,hi,his,hib⟩:=he.infoo
    have hzz:=hz.zero
    simp only [hi,Option.bind_some] at hzz
    cases hz0:i.zero with
    | none=>simp [hz0] at hzz
    | some zv=>
      simp only [hz0,Option.map_some,Option.some.injEq] at hzz
      have hzs:zv.cells.size=es:=by rw [← hzl,← hzz];simp
      have hsmall:m≤9223372036854775807:=by simp only [maxLen] at h63;omega
      have hge:=grownCap_ge w m 0 e
      have hcm:=grownCap_le_maxLen w m 0 e h63
      have hr:=Lib.run_append_nil_zeros (P:=C.P) w T I o.type e i zv k kn hdd hdi hi hz0 m h0 (by omega) (by omega) (by rw [hib];omega)
      refine ⟨.slice (some ⟨w.heap.size,0,none⟩) m (grownCap w m 0 e),w.drew.alloc (.cells (Builtin.zeroCells zv.cells m++Builtin.zeroCells zv.cells (grownCap w m 0 e - m)) e),(some w.heap.size,grownCap w m 0 e),[w.heap.size],by
        simp only [execOp,ho,resolve,invoke,builtin,Sem.run_bind,Sem.run_pure,Result.andThen_ok,List.map_toArray,List.map_cons,List.map_nil,hv,hw,hr],rfl,.same,rfl,by simp,fun k hk _=>Below.heap_alloc w.drew _ k hk,by simp,?_,?_⟩
      · refine ⟨hes,hcm,by simp,.inr ⟨w.heap.size,_,rfl,rfl,heap_alloc_new w.drew _,?_,fun i row hrow=>by simp at hrow⟩⟩
        simp only [Array.size_append,size_zeroCells,hzs,← Nat.add_mul]
        congr 1;omega
      · exact ⟨some w.heap.size,grownCap w m 0 e,mu_new hlen,by simpa using hge,by simp⟩
end ops
end Go.Aw
