/- carts: what they are worth -/
import Derived.Test.YtkgploeegbmofaaGreatSEA07
import Derived.Test.YtkgploeegbmofaaGreatSEA11
import Derived.Test.YtkgploeegbmofaaGreatSEA01
import Derived.Test.YtkgploeegbmofaaGreatSEA02
import Derived.Lib.Overlaps
import Derived.Lib.AppendZerosOnto
import Derived.Laws.Externs
namespace Go.Proofs.YtkgploeegbmofaaGreat.Ca
open Go Go.RowKit Go.Aw Go.Aw.Cart
set_option linter.unusedVariables false
set_option linter.unusedSimpArgs false
set_option maxRecDepth 8000
set_option maxHeartbeats 4000000
open J
end Go.Proofs.YtkgploeegbmofaaGreat.Ca
namespace Go.Proofs.YtkgploeegbmofaaGreat.Wi
open Go Go.RowKit Go.Aw
set_option linter.unusedVariables false
set_option linter.unusedSimpArgs false
set_option maxRecDepth 8000
set_option maxHeartbeats 4000000
namespace W4
theorem lopC {C:Ctx} {o:Oper} {σ:St} {e:Eff} {ro:Nat→Bool} (h:LOp C o σ e ro:=by
  first|(apply lop_osl_eqnil;(focus rfl);(focus exact inferInstance);(focus rfl);(focus exact ⟨_,_,_,rfl,rfl⟩);(focus rfl);(focus rfl))|(apply lop_ap_exo;(focus rfl);(focus exact inferInstance);(focus exact inferInstance);(focus exact inferInstance);(focus rfl);(focus rfl);(focus rfl);(focus rfl);(focus rfl);(focus rfl);(focus first|(simp only [maxLen,List.length_append,List.length_cons,List.length_nil,List.length_take,List.length_drop,List.length_map];omega)|omega);(focus first|(simp only [maxLen,List.length_append,List.length_cons,List.length_nil,List.length_take,List.length_drop,List.length_map];omega)|omega);(focus rfl))|exact W2.lopC|fail):LOp C o σ e ro:=h
section steps
variable {C:Ctx} {ops:Array Oper} {o:Oper} {rest:List Oper} {K:St→Prop} {σ:St} {e:Eff} {ro:Nat→Bool} {W:List (Nat × Nat)} {i:Nat}
theorem rnC {d:Nat} (hg:Guard ops σ o true:=by first|exact gd_n rfl rfl|exact gd_t rfl rfl rfl rfl|exact gd_t rfl rfl rfl (by assumption)) (hd:o.dst=some d:=by rfl) (h:LOp C o σ e ro:=by exact lopC) (hk:RunN C ops rest K (e.app (some d) σ)):RunN C ops (o::rest) K σ:=rn_any hg hd h hk
end steps
end W4
open W4
theorem cloneB_w (l:List Nat) (ex:Bool) (h:l.length≤1000000000):PCall Tryz.prog 131 [.p (.sl 1 (l.map bR) ex)] (.p (.sl 1 (l.map bR) false)):=by
 refine pcall_of Tryz.func131 rfl (fun w0 F S0 M0=>?_)
 as_aux_lemma=>
  repeat' (first|refine jx5 ?_|refine jy0 ?_ ?_|exact spF|refine spQ fun hq hq'=>?_|refine spN fun hn=>?_|fail)
  ·have e:l=[]:=List.eq_nil_of_length_eq_zero (by have:=congrArg List.length hn;rwa [List.length_map,List.length_nil] at this)
   subst e
   exact rt1 rfl rfl (.one .nil) rfl
  ·exact rt1 rfl rfl finS_p rfl
theorem cloneO_o (n:Nat) (l:List Nat) (h:l.length≤1000000000):OCall Tryz.prog 131 [.o (.osl 1000 n 1 0 l.length)] (memL [(1000,(n+1,some (.buf 5 1 (l.map bR))))]) (.p (.sl 1 (l.map bR) false)) (memL [(1000,(n+1,some (.buf 5 1 (l.map bR))))]):=by
 refine ocall_of1 Tryz.func131 rfl (fun w0 F S0 M0=>?_)
 as_aux_lemma=>
  repeat' (first|refine jx5 ?_|refine jy0 ?_ ?_|exact spF|refine spQ fun hq hq'=>?_|refine spN fun hn=>?_|fail)
  ·have e:l=[]:=List.eq_nil_of_length_eq_zero hn
   subst e
   exact RetO.mk (ot1 rfl rfl (.one .nil) rfl) ⟨.buf,trivial⟩
  ·exact RetO.mk (ot1 rfl rfl finS_p rfl) ⟨.buf,trivial⟩
instance cloneO_i {c g n:Nat} {l:List Nat}:OC Tryz.prog 131 [.o (.osl c g 1 0 l.length)] [(c,(n,some (.buf 5 1 (l.map bR))))] [] (n=g+1∧l.length≤1000000000) (.p (.sl 1 (l.map bR) false)) [(c,(n,some (.buf 5 1 (l.map bR))))]:=⟨fun h=>by obtain ⟨rfl,h⟩:=h;exact (cloneO_o g l h).one c⟩
theorem bytes_o (n:Nat) (bs:List Nat) (h:bs.length≤1000000000):OCall Tryz.prog 90 [.o (.ptr 1000 n 0)] (memL [(1000,(n+1,some (.abs (wrA bs))))]) (.p (.sl 1 (bs.map bR) false)) (memL [(1000,(n+1,some (.abs (wrA bs))))]):=by
 refine ocall_of1 Tryz.func90 rfl (fun w0 F S0 M0=>?_)
 refine aws_says (says_unpack' (p:=1000) (o:=901) rfl rfl (List.length_map _) rfl (by decide)) ?_
 repeat' (first|refine jx8 ?_|refine jy0 ?_ ?_|exact spF|refine spQ fun hq hq'=>?_|refine spN fun hn=>?_|fail)
 refine aws_says (says_pack (p:=1000) (o:=901) (pre:=[]) (post:=[]) rfl rfl rfl rfl (by rw [List.length_map]) (by decide)) ?_
 as_aux_lemma=>
  repeat' (first|refine jx5 ?_|refine jy0 ?_ ?_|exact spF|refine spQ fun hq hq'=>?_|refine spN fun hn=>?_|fail)
  exact RetO.mk (ot1 rfl rfl finS_p rfl) ⟨.abs,trivial⟩
instance bytes_i {c g n:Nat} {bs:List Nat}:OC Tryz.prog 90 [.o (.ptr c g 0)] [(c,(n,some (.abs (wrA bs))))] [] (n=g+1∧bs.length≤1000000000) (.p (.sl 1 (bs.map bR) false)) [(c,(n,some (.abs (wrA bs))))]:=⟨fun h=>by obtain ⟨rfl,h⟩:=h;exact (bytes_o g bs h).one c⟩
end Go.Proofs.YtkgploeegbmofaaGreat.Wi
namespace Go.Aw
open Go Go.RowKit
set_option linter.unusedVariables false
set_option linter.unusedSimpArgs false
def RV (r:AV):Prop:=∀ μ X Y v,r.holds μ X v→r.holds μ Y v
theorem RV.v {c:Value}:RV (.p (.v c)):=fun _ _ _ _ h=>h
theorem RV.a {cs:List AC} (h:∀ c∈cs,∃ x,c=.p (.v x)):RV (.a cs):=by
  rintro μ X Y v ⟨arr,rfl,h1⟩
  refine ⟨arr,rfl,h1.1,fun i c x hc hx=>?_⟩
  obtain ⟨y,rfl⟩:=h c (List.mem_of_getElem? hc)
  exact h1.2 i _ x hc hx
def Lnd (σ:St) (ob:Nat) (a b:AV):Prop:=
  Ent a b∨∃ g es n ty rows,a=.o (.osl ob g es 0 rows.length)∧σ.mem ob=(n,some (.buf ty es rows))∧n=g+1∧b=.p (.sl es rows false)
theorem lop_lend {C:Ctx} {o:Oper} {σ:St} {f:FuncId} {xs0:Array Operand} {ts:Array TypeId} {args:List AV} {r:AV} {ob:Nat} (hfn:FnT C.P f) (ho:o.op=.call ⟨.value (.func f),xs0,ts⟩)
    (hE:All2 (Lnd σ ob) (xs0.toList.map σ.look) args) (hc:PCall C.P f args r) (hr:RV r) (hd:dOk C o.dst=true):LOp C o σ ⟨r,[]⟩ (fun y=>y == ob):=by
  refine ⟨fun x m h=>by simp at h,fun τ hl hm a w ⟨G,h⟩ K Q hK=>?_⟩
  have hmo:τ.mem ob=σ.mem ob:=hm ob (by simp)
  have hE':All2 (Lnd τ ob) (xs0.toList.map τ.look) args:=by
    have:xs0.toList.map τ.look=xs0.toList.map σ.look:=List.map_congr_left fun x hx=>hl x (by rw [ho];simp [Op.operands,Call.operands];right;simpa using hx)
    rw [this]
    refine hE.mono fun a b k=>?_
    unfold Lnd at k ⊢
    rw [hmo];exact k
  have hS:Wd.le ⟨w,G.S⟩ ⟨w,fun b=>G.S b∨b∈G.φ ob⟩:=fun b hb=>⟨.inl hb,rfl⟩
  have hv:All2 (AV.holds Mu.none ⟨w,fun b=>G.S b∨b∈G.φ ob⟩) args (xs0.toList.map a.eval):=by
    refine ⟨by have:=hE'.1;simpa using this.symm,fun i av v hav hvv=>?_⟩
    rw [List.getElem?_map] at hvv
    cases hx:xs0.toList[i]? with
    | none=>rw [hx] at hvv;cases hvv
    | some x=>
      rw [hx] at hvv;simp at hvv;subst hvv
      rcases hE'.2 i (τ.look x) av (by simp [List.getElem?_map,hx]) hav with k | ⟨g,es,n,ty,rows,e1,e2,e3,e4⟩
      · exact (k _ _ _ (h.look x)).mono (Mu.le.refl _) hS
      · have hlk:=look_of h e1
        obtain ⟨m,c,p1,p2,p3⟩:=hlk
        obtain ⟨g',m',q1,q2,q3,q4,q5,q6⟩:=h.mem ob _ _ e2
        obtain rfl:g=g':=by omega
        rw [p1] at q2
        obtain rfl:=Option.some.inj q2
        subst e4
        refine ⟨m.map fun b=>(⟨b,0 * es,none⟩:Addr),c - 0,p3,by simpa using p2,by simpa using q4,by simp,?_⟩
        rcases q6 with ⟨r1,r2,_⟩ | ⟨b,arr,r1,r2,r3,r4,r5⟩
        · simp only at r1 r2 p2
          subst r1
          exact ⟨List.eq_nil_of_length_eq_zero (by omega),by simpa using r2⟩
        · simp only at r1
          subst r1
          refine .inr ⟨rfl,.inr (by rw [r2];simp),arr,ty,(0,0),r3,fun i row hrow=>⟨(r5 i row hrow).1,fun j p hp=>?_⟩⟩
          obtain ⟨z,hz,hz'⟩:=(r5 i row hrow).2 j p hp
          exact ⟨z,by simpa using hz,p.mono hS hz'⟩
  obtain ⟨fn,h1,h2,h3⟩:=hfn.fn
  have hrun:(execOp a.eval o).run C.P w=.ok (.enter f (xs0.map a.eval)) w:=by
    have e1:a.eval (.func f)=.func (.func f) #[] #[]:=rfl
    have hname : (fn.name == "runtime.NumGoroutine") = false := h2
    cases hbody:fn.body with
    | none=>simp [hbody] at h3
    | some c => simp [execOp, ho, resolve, e1, Deferred.ofValue, invoke, callFunc, program, Sem.run, Sem.run_bind, h1, hbody, pure, show ¬ fn.name = "runtime.NumGoroutine" from by simpa using hname]
  refine wpIn_exec (by rw [ho];intro c h;cases h) ?_
  rw [hrun,Oper.uponIn_enter]
  have h9:Calls C.P f (xs0.toList.map a.eval).toArray w fun
      | .returned v,w''=>K (a.put o.dst v) w''
      | .panicked chain,w''=>Q (.panic chain) a w''
      | .outgrown,_=>LetsOut Q:=by
    refine (hc w (fun b=>G.S b∨b∈G.φ ob) _ (fun b hb=>hb.elim (fun k=>(h.sbd b k).1) fun k=>(h.own ob b k).2) hv).mono ?_
    rintro e w' ⟨v,rfl,⟨S',hS1,hS2,hrr⟩,hb,hdr⟩
    have h1:=h.world (Quiet.of_below hb hdr) (fun b=>w.heap.size≤b∧b < w'.heap.size) (fun b hb=>hb)
    exact hK _ _ ⟨_,h1.setv hd ((hr _ _ _ _ hrr).mono (Mu.none_le _) (Wd.le.refl _))⟩
  have e:(xs0.toList.map a.eval).toArray=xs0.map a.eval:=by rw [← Array.toList_map]
  rw [e] at h9
  exact ⟨by simp [fz,Fence.wide],(callsIn_wide (n:=0)).2 h9⟩
theorem lop_lend2 {C:Ctx} {o:Oper} {σ:St} {f:FuncId} {x y:Operand} {ts:Array TypeId} {r ay:AV} {pre:Prop} {ob g es n len:Nat} {ty:TypeId} {rows:List (List PVal)} (ho:o.op=.call ⟨.value (.func f),#[x,y],ts⟩) (hfn:FnT C.P f) (hx:σ.look x=.o (.osl ob g es 0 len)) (hm:σ.mem ob=(n,some (.buf ty es rows))) (hn:n=g+1) (hl:len=rows.length)
    (hy:σ.look y=ay) (hp:PureAV ay) (hc:PC C.P f [.p (.sl es rows false),ay] pre r) (hpre:pre) (hr:RV r) (hd:dOk C o.dst=true):LOp C o σ ⟨r,[]⟩ (fun y=>y == ob):=by
  subst hl
  exact lop_lend hfn ho (.cons (.inr ⟨g,es,n,ty,rows,hx,hm,hn,rfl⟩) (.cons (.inl (by rw [hy];exact hp.pure)) .nil)) (hc.call hpre) hr hd
def bufC (ty:TypeId) (es c:Nat) (rows:List (List PVal)):AObj where
  holds X b fp:=0 < es∧c≤maxLen∧rows.length≤c∧fp=[b]∧∃ arr,X.w.heap[b]?=some (.cells arr ty (0,0))∧arr.size=c * es∧RowsAt X arr 0 es rows
  mono:=by
    rintro x y b fp hle hf ⟨h0,h1,h2,rfl,arr,h3,h4,h5⟩
    refine ⟨h0,h1,h2,rfl,arr,(hf b (by simp)).trans h3,h4,fun i row hr=>⟨(h5 i row hr).1,fun j p hp=>?_⟩⟩
    obtain ⟨c,hc,hh⟩:=(h5 i row hr).2 j p hp
    exact ⟨c,hc,p.mono hle hh⟩
theorem aws_cap {C:Ctx} {σ:St} {k:List Code} {Q:Exit→St→Prop} {c0:Code} {t o g n es len ty:Nat} {rows:List (List PVal)} (ht:σ.env t=.o (.osl o g es 0 len)) (hm:σ.mem o=(n,some (.buf ty es rows))) (hn:n=g+1) (h0:0 < rows.length)
    (h:∀ c,rows.length≤c→c≤maxLen→AWs C (c0::k) Q ((σ.put o (n,some (.abs (bufC ty es c rows)))).set (some t) (.o (.asl o g 0 len c)))):AWs C (c0::k) Q σ:=by
  intro a w ⟨G,hr⟩
  subst hn
  obtain ⟨g',m,hg,hmm,hes,hmax,hrl,hh⟩:=hr.mem o _ _ hm
  obtain rfl:g=g':=by omega
  have h1:=hr.env t
  rw [ht] at h1
  obtain ⟨m',c,k1,k2,k3⟩:=h1
  rw [k1] at hmm;obtain rfl:=Option.some.inj hmm
  have hlen:(G.μ o).length=g+1:=by have:=hr.gens o;rw [hm] at this;exact this
  rcases hh with ⟨h3,h4,h5⟩ | ⟨b,arr,h3,h4,h5,h6,h7⟩
  · simp only at h4 hrl;omega
  · simp only at h3 hmax hrl h6
    subst h3
    have hu:=hr.upd (o:=o) (n':=g+1) (mo':=some (.abs (bufC ty es c rows))) (μo:=G.μ o) (fp':=G.φ o) (w':=w) (fun g x hx=>hx) hlen rfl .same rfl (Nat.le_refl _) (fun _ _ _=>rfl) (fun b hb=>⟨.inl hb,(hr.own o b hb).2⟩) (fun mo1 hmo=>by
      obtain rfl:=Option.some.inj hmo
      exact ⟨g,(some b,c),rfl,k1,b,rfl,hes,hmax,hrl,h4,arr,h5,h6,h7⟩)
    refine h c hrl hmax a w ⟨_,hu.alias ?_⟩
    exact ⟨b,c,by simpa using k1,by simpa using k3⟩
theorem says_uncap {C:Ctx} {σ:St} {t o g n es c len ty:Nat} {rows:List (List PVal)} (ht:σ.env t=.o (.asl o g 0 len c)) (hm:σ.mem o=(n,some (.abs (bufC ty es c rows)))) (hn:n=g+1) (hl:len=rows.length) :
    Says C σ ((σ.put o (n+1,some (.buf ty es rows))).set (some t) (.o (.osl o n es 0 len))):=by
  rintro a w ⟨G,hr⟩
  subst hn hl
  obtain ⟨g',m,hg,hmm,b,h3,hes,hmax,hrl,h4,arr,h5,h6,h7⟩:=hr.mem o _ _ hm
  obtain rfl:g=g':=by omega
  have h1:=hr.env t
  rw [ht] at h1
  obtain ⟨b',c',k1,k3⟩:=h1
  rw [k1] at hmm;obtain rfl:=Option.some.inj hmm
  simp only [Option.some.injEq] at h3
  subst h3
  have hlen:(G.μ o).length=g+1:=by have:=hr.gens o;rw [hm] at this;exact this
  have hu:=hr.upd (o:=o) (n':=g+1+1) (mo':=some (.buf ty es rows)) (μo:=G.μ o++[(some b',c)]) (fp':=G.φ o) (w':=w) (fun g x hx=>by
    rw [List.getElem?_append_left (List.getElem?_eq_some_iff.1 hx).1];exact hx) (by simp [hlen]) rfl .same rfl (Nat.le_refl _) (fun _ _ _=>rfl) (fun b hb=>⟨.inl hb,(hr.own o b hb).2⟩) (fun mo1 hmo=>by
    obtain rfl:=Option.some.inj hmo
    exact ⟨g+1,(some b',c),rfl,by simp [← hlen],hes,hmax,hrl,.inr ⟨b',arr,rfl,h4,h5,h6,h7⟩⟩)
  refine ⟨_,hu.alias ?_⟩
  exact ⟨some b',c,by simp [← hlen],by simpa using hrl,by simpa using k3⟩
theorem says_mv {C:Ctx} {σ:St} {t o o2 g2 n n2 es len ty:Nat} {mo:Option MO} {rows:List (List PVal)} (ht:σ.env t=.o (.osl o2 g2 es 0 len)) (hm:σ.mem o=(n,mo)) (hm2:σ.mem o2=(n2,some (.buf ty es rows))) (hn:n2=g2+1) (hne:o≠o2) :
    Says C σ (((σ.put o (n+1,some (.buf ty es rows))).put o2 (n2,none)).set (some t) (.o (.osl o n es 0 len))):=by
  rintro a w ⟨G,h⟩
  subst hn
  obtain ⟨g',m,hg,hmm,hh⟩:=h.mem o2 _ _ hm2
  obtain rfl:g2=g':=by omega
  have h1:=h.env t
  rw [ht] at h1
  obtain ⟨m',c,k1,k2,k3⟩:=h1
  rw [k1] at hmm;obtain rfl:=Option.some.inj hmm
  have hlen:(G.μ o).length=n:=by have:=h.gens o;rw [hm] at this;exact this
  have hmu:G.μ.le (fun x=>if x=o then G.μ o++[(m',c)] else G.μ x):=mu_le
  have hfp:∀ {x k},k∈(if x=o then G.φ o2 else if x=o2 then [] else G.φ x)→(x=o∧k∈G.φ o2)∨(x≠o∧x≠o2∧k∈G.φ x):=fun {x k} hk=>by
    by_cases hx:x=o
    · rw [if_pos hx] at hk;exact .inl ⟨hx,hk⟩
    · rw [if_neg hx] at hk
      by_cases hxo:x=o2
      · rw [if_pos hxo] at hk;cases hk
      · rw [if_neg hxo] at hk;exact .inr ⟨hx,hxo,hk⟩
  have key:RelG C ((σ.put o (n+1,some (.buf ty es rows))).put o2 (g2+1,none)) a w ⟨fun x=>if x=o then G.μ o++[(m',c)] else G.μ x,G.S,fun x=>if x=o then G.φ o2 else if x=o2 then [] else G.φ x⟩:={
    size:=h.size
    defers:=fun d hd=>by
      obtain ⟨b',rfl,h1,h2,h3,h4,h5⟩:=h.defers d hd
      refine ⟨b',rfl,h1,h2,h3,h4,fun x hx=>?_⟩
      rcases hfp hx with ⟨_,k⟩ | ⟨_,_,k⟩
      · exact h5 _ k
      · exact h5 _ k
    dnod:=h.dnod
    mle:=h.mle.trans hmu
    env:=fun t=>(h.env t).mono hmu (Wd.le.refl _)
    gens:=fun x=>by
      by_cases hx:x=o
      · subst hx;simp [St.put,hne,hlen]
      · by_cases hxp:x=o2
        · subst hxp;have:=h.gens x;rw [hm2] at this;simpa [St.put,hx] using this
        · simpa [St.put,hx,hxp] using h.gens x
    mem:=fun x n' mo' hx=>by
      by_cases hxp:x=o2
      · subst hxp
        simp [St.put] at hx
      · by_cases hxo:x=o
        · subst hxo
          simp only [St.put,hxp,if_false,if_true,Prod.mk.injEq] at hx
          obtain ⟨rfl,hx⟩:=hx
          obtain rfl:=Option.some.inj hx
          refine ⟨n,(m',c),rfl,by simp [← hlen],?_⟩
          simp only [if_true]
          exact hh.mono hmu (Wd.le.refl _) fun _ _=>rfl
        · simp only [St.put,hxp,hxo,if_false] at hx
          obtain ⟨g,m2,hn,hm2,hh⟩:=h.mem x n' mo' hx
          refine ⟨g,m2,hn,by simpa [hxo] using hm2,?_⟩
          simp only [hxo,hxp,if_false]
          exact hh.mono hmu (Wd.le.refl _) fun k hk=>rfl
    apart:=fun x y b' hxy hbx hby=>by
      rcases hfp hbx with ⟨rfl,k⟩ | ⟨k1,k2,k⟩<;>rcases hfp hby with ⟨rfl,q⟩ | ⟨q1,q2,q⟩
      · exact hxy rfl
      · exact h.apart _ _ b' (Ne.symm q2) k q
      · exact h.apart _ _ b' k2 k q
      · exact h.apart _ _ b' hxy k q
    stab:=fun x b' hb=>by
      rcases hfp hb with ⟨_,k⟩ | ⟨_,_,k⟩<;>exact h.stab _ b' k
    own:=fun x b' hb=>by
      rcases hfp hb with ⟨_,k⟩ | ⟨_,_,k⟩<;>exact h.own _ b' k
    sbd:=h.sbd
    ssub:=h.ssub
    fr:=h.fr }
  refine ⟨_,key.alias ?_⟩
  exact ⟨m',c,by simp [← hlen],k2,k3⟩
section ops
variable {C:Ctx} {o:Oper} {σ:St}
theorem lop_cap_asl {T e:TypeId} {x:Operand} {sz by_:Nat} {ob g off len cap:Nat} (ho:o.op=.call ⟨.builtin .cap,#[x],#[T]⟩) (hT:TI C.P T (.slice e) sz by_) (hx:σ.look x=.o (.asl ob g off len cap)) (hd:dOk C o.dst=true) :
    LOp C o σ ⟨.p (.v (.int .i64 cap)),[]⟩ (fun _=>false):=
  lop_val hd fun τ a w G hl' hm' h=>by
    obtain ⟨m,c,h0,h1⟩:=look_of h ((hl' x (by simp [ho,Op.operands,Call.operands])).trans hx)
    obtain ⟨d,hdd,hkk⟩:=hT.undd
    have:d=.slice e:=by cases d<;>simp [TK.of] at hkk;rw [hkk]
    subst this
    exact ⟨.int .i64 cap,by simp [execOp,ho,resolve,invoke,builtin,Builtin.cap_,h1,run_underlying hdd,goInt],rfl,rfl⟩
theorem slice_asl {T e:TypeId} {x:Operand} {lo hi:Option Operand} {sz by_:Nat} (hT:TI C.P T (.slice e) sz by_) {ke:TK} {sze be:Nat} (he:TI C.P e ke sze be) {ob g off len cap l h:Nat} (vlo vhi:Option (IntKind × Int))
    (ho:o.op=.slice T x lo hi none) (hx:σ.look x=.o (.asl ob g off len cap)) (hlo:lo.map σ.look=vlo.map fun p=>.p (.v (.int p.1 p.2))) (hhi:hi.map σ.look=vhi.map fun p=>.p (.v (.int p.1 p.2)))
    (hb:∀ w,(Instr.sliceBounds true len cap (vlo.map fun p=>.int p.1 p.2) (vhi.map fun p=>.int p.1 p.2) none).run C.P w=.ok (l,h,cap) w) (hlc:l < cap∨l=0) (hd:dOk C o.dst=true) :
    LOp C o σ ⟨.o (.asl ob g (off+l * sze) (h - l) (cap - l)),[]⟩ (fun _=>false):=
  lop_val hd fun τ a w G hl hm' hr=>by
    obtain ⟨b,c,h1,h2⟩:=look_of hr ((hl x (by simp [ho,Op.operands])).trans hx)
    have opt:∀ (q:Option Operand) (v:Option (IntKind × Int)),(∀ y,q=some y→y∈o.op.operands)→q.map σ.look=v.map (fun p=>AV.p (.v (.int p.1 p.2)))→q.map a.eval=v.map fun p=>Value.int p.1 p.2:=fun q v hq hv=>by
      cases q with
      | none=>cases v<;>simp_all
      | some y=>
        cases v with
        | none=>simp at hv
        | some p=>
          simp only [Option.map_some,Option.some.injEq] at hv ⊢
          exact val_of hr ((hl y (hq y rfl)).trans hv)
    have e1:=opt lo vlo (fun y hy=>by subst hy;simp [ho,Op.operands]) hlo
    have e2:=opt hi vhi (fun y hy=>by subst hy;simp [ho,Op.operands]) hhi
    obtain ⟨d,hdd,hkk⟩:=hT.undd
    have:d=.slice e:=by cases d<;>simp [TK.of] at hkk;rw [hkk]
    subst this
    refine ⟨.slice (some ⟨b,off+l * sze,none⟩) (h - l) (cap - l),?_,b,c,h1,rfl⟩
    have hbase:(if cap=l then (some ⟨b,off,none⟩:Option Addr) else (some (⟨b,off,none⟩:Addr)).map (·.add (l * sze)))=some ⟨b,off+l * sze,none⟩:=by
      by_cases hc:cap=l
      · have:l=0:=by omega
        rw [if_pos hc,this,Nat.zero_mul,Nat.add_zero]
      · rw [if_neg hc,Option.map_some,add_addr]
    simp only [execOp,ho,Instr.sliceAt,Sem.run_bind,run_underlying hdd,Result.andThen_ok,Instr.slice,h2,e1,e2,Option.map_none,hb,he.run_sizeOf,Sem.run_pure,hbase]
theorem lop_sl_asl_l {T e:TypeId} {x xl:Operand} {sz by_:Nat} {ke:TK} {sze be:Nat} {ob g off len cap:Nat} {kl:IntKind} {l:Int} (ho:o.op=.slice T x (some xl) none none) (hT:TI C.P T (.slice e) sz by_) (he:TI C.P e ke sze be) (hx:σ.look x=.o (.asl ob g off len cap)) (hlo:σ.look xl=.p (.v (.int kl l))) (h0:0≤l) (h1:l≤len) (h2:len≤cap) (h3:l.toNat < cap) (hd:dOk C o.dst=true) :
    LOp C o σ ⟨.o (.asl ob g (off+l.toNat * sze) (len - l.toNat) (cap - l.toNat)),[]⟩ (fun _=>false):=
  slice_asl hT he (some (kl,l)) none ho hx (by simp [hlo]) rfl (fun w=>by simp [Instr.sliceBounds,run_sb h0 h1]) (.inl h3) hd
theorem lop_sl_asl_h {T e:TypeId} {x xh:Operand} {sz by_:Nat} {ke:TK} {sze be:Nat} {ob g off len cap:Nat} {kh:IntKind} {h:Int} (ho:o.op=.slice T x none (some xh) none) (hT:TI C.P T (.slice e) sz by_) (he:TI C.P e ke sze be) (hx:σ.look x=.o (.asl ob g off len cap)) (hhi:σ.look xh=.p (.v (.int kh h))) (h0:0≤h) (h1:h≤cap) (hd:dOk C o.dst=true) :
    LOp C o σ ⟨.o (.asl ob g off h.toNat cap),[]⟩ (fun _=>false):=by
  have:=slice_asl (l:=0) (h:=h.toNat) hT he none (some (kh,h)) ho hx rfl (by simp [hhi]) (fun w=>by simp [Instr.sliceBounds,run_sb (y:=cap) h0 h1]) (.inr rfl) hd
  simpa using this
theorem lop_sl_osl_l {T e:TypeId} {x xl:Operand} {sz by_:Nat} {ke:TK} {sze be:Nat} {ob g len:Nat} {kl:IntKind} {l:Int} (ho:o.op=.slice T x (some xl) none none) (hT:TI C.P T (.slice e) sz by_) (he:TI C.P e ke sze be) (hx:σ.look x=.o (.osl ob g sze 0 len)) (hlo:σ.look xl=.p (.v (.int kl l))) (h0:0≤l) (h1:l < len) (hd:dOk C o.dst=true) :
    LOp C o σ ⟨.o (.osl ob g sze l.toNat (len - l.toNat)),[]⟩ (fun _=>false):=
  lop_val hd fun τ a w G hl hm' hr=>by
    obtain ⟨m,c,k1,k2,k3⟩:=look_of hr ((hl x (by simp [ho,Op.operands])).trans hx)
    have e1:=val_of hr ((hl xl (by simp [ho,Op.operands])).trans hlo)
    obtain ⟨d,hdd,hkk⟩:=hT.undd
    have:d=.slice e:=by cases d<;>simp [TK.of] at hkk;rw [hkk]
    subst this
    simp only [Nat.zero_mul,Nat.sub_zero,Nat.zero_add] at k2 k3
    refine ⟨.slice (m.map fun b=>⟨b,l.toNat * sze,none⟩) (len - l.toNat) (c - l.toNat),?_,m,c,k1,by omega,rfl⟩
    have hb:(Instr.sliceBounds true len c (some (.int kl l)) none none).run C.P w=.ok (l.toNat,len,c) w:=by simp [Instr.sliceBounds,run_sb h0 (show l≤len by omega)]
    have hne:¬ c=l.toNat:=by omega
    simp only [execOp,ho,Instr.sliceAt,Sem.run_bind,run_underlying hdd,Result.andThen_ok,Instr.slice,k3,e1,Option.map_some,Option.map_none,hb,he.run_sizeOf,Sem.run_pure,if_neg hne]
    cases m with
    | none=>rfl
    | some b=>simp only [Option.map_some,add_addr,Nat.zero_add]
theorem run_copy_es {P:Program} (w:World) (dT sT ty elem:TypeId) (g o dLen dCap:Nat) (a:Addr) (sLen sCap es:Nat) (cur:Array Value) (t:TypeId) (cs:List Value)
    (hu:P.underlying dT=some (.slice elem)) (hs:∀ w,(sizeOf elem).run P w=.ok es w)
    (hg:w.heap[g]?=some (.cells cur t (0,0))) (hn:cs.length=Nat.min sLen dLen * es)
    (hsrc:∀ j v,cs[j]?=some v→w.cell? (a.add j)=some v) (hfit:o+cs.length≤cur.size) (h1:∀ v∈cs,v.oneCell'=true) :
    (Builtin.copy_ #[dT,sT] ty #[.slice (some ⟨g,o,none⟩) dLen dCap,.slice (some a) sLen sCap]).run P w =
      .ok (goInt (Nat.min sLen dLen)) (w.setRow g (cur.toList.take o++cs++cur.toList.drop (o+cs.length)).toArray):=by
  have hl:=run_loadCells_list (P:=P) w a cs hsrc
  have hst:=run_storeCells_at P g o t cs 0 cur w hg (by simpa using hfit) h1
  simp only [Nat.add_zero] at hst
  simp [Builtin.copy_,run_underlying hu,Builtin.lenOf,Builtin.firstCells,hs,← hn,hl,hst]
theorem rowsAt_over {X:Wd} {arr:Array Value} {es d k:Nat} {rows news:List (List PVal)} {nvs:List Value} (hes:0 < es) (hr:RowsAt X arr 0 es rows) (hnv:nvs.length=k * es) (hnl:news.length=k) (hd:d≤rows.length) (hfit:(d+k) * es≤arr.size)
    (hnew:∀ i row,news[i]?=some row→row.length=es∧∀ j p,row[j]?=some p→∃ c,nvs[i * es+j]?=some c∧p.holds X c) :
    RowsAt X (arr.toList.take (d * es)++nvs++arr.toList.drop (d * es+nvs.length)).toArray 0 es (rows.take d++news++rows.drop (d+k)):=by
  have hsz:arr.toList.length=arr.size:=Array.length_toList
  rw [Nat.add_mul] at hfit
  have htl:(arr.toList.take (d * es)).length=d * es:=by rw [List.length_take];omega
  have hrt:(rows.take d).length=d:=by rw [List.length_take];omega
  intro i row hrow
  by_cases h1:i < d
  · rw [List.append_assoc,List.getElem?_append_left (by omega),List.getElem?_take,if_pos h1] at hrow
    refine ⟨(hr i row hrow).1,fun j p hp=>?_⟩
    obtain ⟨c,hc,hh⟩:=(hr i row hrow).2 j p hp
    refine ⟨c,?_,hh⟩
    have hj:j < es:=by rw [← (hr i row hrow).1];exact (List.getElem?_eq_some_iff.1 hp).1
    have hij:i * es+j < d * es:=by
      have:(i+1) * es≤d * es:=Nat.mul_le_mul_right _ h1
      rw [Nat.add_mul] at this;omega
    rw [List.getElem?_toArray,Nat.zero_add,List.append_assoc,List.getElem?_append_left (by omega),List.getElem?_take,if_pos hij]
    rw [Nat.zero_add] at hc
    simpa using hc
  · by_cases h2:i < d+k
    · rw [List.append_assoc,List.getElem?_append_right (by omega),hrt,List.getElem?_append_left (by omega)] at hrow
      refine ⟨(hnew _ row hrow).1,fun j p hp=>?_⟩
      obtain ⟨c,hc,hh⟩:=(hnew _ row hrow).2 j p hp
      refine ⟨c,?_,hh⟩
      have e:(i - d) * es=i * es - d * es:=Nat.sub_mul _ _ _
      have hle:d * es≤i * es:=Nat.mul_le_mul_right _ (by omega)
      rw [List.getElem?_toArray,Nat.zero_add,List.append_assoc,List.getElem?_append_right (by omega),htl,List.getElem?_append_left (by
        have:=(List.getElem?_eq_some_iff.1 hc).1;omega),← hc]
      congr 1;omega
    · rw [List.append_assoc,List.getElem?_append_right (by omega),hrt,List.getElem?_append_right (by omega),hnl,List.getElem?_drop] at hrow
      have ei:d+k+(i - d - k)=i:=by omega
      rw [ei] at hrow
      refine ⟨(hr i row hrow).1,fun j p hp=>?_⟩
      obtain ⟨c,hc,hh⟩:=(hr i row hrow).2 j p hp
      refine ⟨c,?_,hh⟩
      have hle:(d+k) * es≤i * es:=Nat.mul_le_mul_right _ (by omega)
      rw [Nat.add_mul] at hle
      rw [List.getElem?_toArray,Nat.zero_add,List.append_assoc,List.getElem?_append_right (by omega),htl,List.getElem?_append_right (by omega),List.getElem?_drop]
      rw [Nat.zero_add] at hc
      have ek:d * es+nvs.length+(i * es+j - d * es - nvs.length)=i * es+j:=by omega
      rw [ek]
      simpa using hc
theorem vals_take {X:Wd} {es k:Nat} {news:List (List PVal)} {nvs:List Value} (hk:k≤news.length) (hl:nvs.length=news.length * es)
    (h:∀ i row,news[i]?=some row→row.length=es∧∀ j p,row[j]?=some p→∃ c,nvs[i * es+j]?=some c∧p.holds X c) :
    (nvs.take (k * es)).length=k * es∧∀ i row,(news.take k)[i]?=some row→row.length=es∧∀ j p,row[j]?=some p→∃ c,(nvs.take (k * es))[i * es+j]?=some c∧p.holds X c:=by
  have hle:k * es≤news.length * es:=Nat.mul_le_mul_right _ hk
  refine ⟨by rw [List.length_take];omega,fun i row hr=>?_⟩
  rw [List.getElem?_take] at hr
  split at hr
  · rename_i hi
    refine ⟨(h i row hr).1,fun j p hp=>?_⟩
    obtain ⟨c,hc,hh⟩:=(h i row hr).2 j p hp
    refine ⟨c,?_,hh⟩
    have hj:j < es:=by rw [← (h i row hr).1];exact (List.getElem?_eq_some_iff.1 hp).1
    have:(i+1) * es≤k * es:=Nat.mul_le_mul_right _ hi
    rw [Nat.add_mul] at this
    rw [List.getElem?_take,if_pos (by omega)]
    exact hc
  · cases hr
def SrcN (C:Ctx) (σ:St) (x:Operand) (es L:Nat) (news:List (List PVal)) (ro:Nat→Bool):Prop:=
  ∀ τ a w G,τ.look x=σ.look x→(∀ y,ro y=true→τ.mem y=σ.mem y)→RelG C τ a w G→
    ∃ ad cap,a.eval x=.slice (some ad) L cap∧∀ i row,news[i]?=some row→row.length=es∧∀ j p,row[j]?=some p→∃ c,w.cell? (ad.add (i * es+j))=some c∧p.holds ⟨w,G.S⟩ c
theorem SrcOk.n {C:Ctx} {σ:St} {x:Operand} {es:Nat} {news:List (List PVal)} {ro:Nat→Bool} (h:SrcOk C σ x es news ro) (h0:0 < news.length):SrcN C σ x es news.length news ro:=fun τ a w G h1 h2 hr=>by
  obtain ⟨base,cap,e1,e2⟩:=h τ a w G h1 h2 hr
  cases base with
  | none=>simp only at e2;rw [e2] at h0;cases h0
  | some ad=>exact ⟨ad,cap,e1,e2⟩
theorem lop_cp_c {T T2 e:TypeId} {x y:Operand} {sz by_:Nat} {ke:TK} {es be:Nat} {ob g d off len1 cap1 c n k L ty:Nat} {rows news:List (List PVal)} {ro:Nat→Bool} (ho:o.op=.call ⟨.builtin .copy,#[x,y],#[T,T2]⟩) (hT:TI C.P T (.slice e) sz by_) (he:TI C.P e ke es be)
    (hx:σ.look x=.o (.asl ob g off len1 cap1)) (hm:σ.mem ob=(n,some (.abs (bufC ty es c rows)))) (hn:n=g+1) (hoff:off=d * es) (hsrc:SrcN C σ y es L news ro) (hk:Nat.min L len1=k) (hkn:k≤news.length) (h0:0 < k) (hd1:d≤rows.length) (hd2:d+k≤c) (hd:dOk C o.dst=true) :
    LOp C o σ ⟨.p (.v (.int .i64 k)),[(ob,(n,some (.abs (bufC ty es c (rows.take d++news.take k++rows.drop (d+k))))))]⟩ (fun q=>ro q||q == ob):=
  lop_same (by simp) hd hm fun τ a w G g' m hl hm' h hng hmm hh=>by
    subst hn
    obtain rfl:g=g':=by omega
    obtain ⟨b',c',k1,k2⟩:=look_of h ((hl x (by simp [ho,Op.operands,Call.operands])).trans hx)
    rw [k1] at hmm;obtain rfl:=Option.some.inj hmm
    obtain ⟨b,e1,hes,hmax,hrl,hfp,arr,h5,h6,h7⟩:=hh
    simp only [Option.some.injEq] at e1
    subst e1
    obtain ⟨ad,cap,s1,s2⟩:=hsrc τ a w G (hl y (by simp [ho,Op.operands,Call.operands])) (fun q hq=>hm' q (by simp [hq])) h
    obtain ⟨nvs,v1,v2,v3,v4⟩:=rows_vals (X:=⟨w,G.S⟩) (es:=es) (f:=fun j=>w.cell? (ad.add j)) news s2
    obtain ⟨t1,t2⟩:=vals_take hkn v1 v4
    obtain ⟨dd,hdd,hkk⟩:=hT.undd
    have:dd=.slice e:=by cases dd<;>simp [TK.of] at hkk;rw [hkk]
    subst this
    have hfit:(d+k) * es≤arr.size:=by rw [h6];exact Nat.mul_le_mul_right _ hd2
    have hfit':=hfit
    rw [Nat.add_mul] at hfit'
    have hr:=run_copy_es (P:=C.P) w T T2 o.type e b' off len1 cap1 ad L cap es arr ty (nvs.take (k * es)) hdd he.run_sizeOf h5 (by rw [t1,hk]) (fun j v hj=>by
      rw [List.getElem?_take] at hj
      split at hj
      · exact v2 j v hj
      · cases hj) (by rw [t1,hoff];exact hfit') (fun v hv=>v3 v (List.mem_of_mem_take hv))
    rw [hk] at hr
    have hbS:¬ G.S b':=h.stab ob b' (by rw [hfp];simp)
    have hle:Wd.le ⟨w,G.S⟩ ⟨w.setRow b' (arr.toList.take off++nvs.take (k * es)++arr.toList.drop (off+(nvs.take (k * es)).length)).toArray,G.S⟩:=fun q hq=>⟨hq,setRow_other w b' q _ fun e=>hbS (e ▸ hq)⟩
    refine ⟨_,goInt k,_,by
      simp only [execOp,ho,resolve,invoke,builtin,Sem.run_bind,Sem.run_pure,Result.andThen_ok,List.map_toArray,List.map_cons,List.map_nil,k2,s1,hr]
      rfl,.inl rfl,setRow_frame.1,setRow_frame.2.1,setRow_frame.2.2.1,setRow_frame.2.2.2,fun q _ hq=>setRow_other w b' q _ fun e=>hq (by rw [hfp,e];simp),?_,rfl,rfl⟩
    have ht:(rows.take d++news.take k++rows.drop (d+k)).length≤c:=by
      simp only [List.length_append,List.length_take,List.length_drop];omega
    refine ⟨b',rfl,hes,hmax,ht,hfp,_,setRow_heap w b' _ _ ty _ h5,?_,?_⟩
    · simp only [List.size_toArray,List.length_append,List.length_take,List.length_drop,Array.length_toList]
      rw [hoff];omega
    · subst hoff
      have:=rowsAt_over (k:=k) hes h7 t1 (by rw [List.length_take];omega) hd1 hfit t2
      intro i row hrow
      refine ⟨(this i row hrow).1,fun j p hp=>?_⟩
      obtain ⟨u,hu,hpu⟩:=(this i row hrow).2 j p hp
      exact ⟨u,hu,p.mono hle hpu⟩
theorem lop_cp_o {T T2 e:TypeId} {x y:Operand} {sz by_:Nat} {ke:TK} {es be:Nat} {ob g d len1 n k L ty:Nat} {rows news:List (List PVal)} {ro:Nat→Bool} (ho:o.op=.call ⟨.builtin .copy,#[x,y],#[T,T2]⟩) (hT:TI C.P T (.slice e) sz by_) (he:TI C.P e ke es be)
    (hx:σ.look x=.o (.osl ob g es d len1)) (hm:σ.mem ob=(n,some (.buf ty es rows))) (hn:n=g+1) (hsrc:SrcN C σ y es L news ro) (hk:Nat.min L len1=k) (hkn:k≤news.length) (h0:0 < k) (hd1:d+len1≤rows.length) (hd:dOk C o.dst=true) :
    LOp C o σ ⟨.p (.v (.int .i64 k)),[(ob,(n,some (.buf ty es (rows.take d++news.take k++rows.drop (d+k)))))]⟩ (fun q=>ro q||q == ob):=
  lop_same (by simp) hd hm fun τ a w G g' m hl hm' h hng hmm hh=>by
    subst hn
    obtain rfl:g=g':=by omega
    obtain ⟨m',c,k1,k2,k3⟩:=look_of h ((hl x (by simp [ho,Op.operands,Call.operands])).trans hx)
    rw [k1] at hmm;obtain rfl:=Option.some.inj hmm
    obtain ⟨hes,hmax,hrl,hh⟩:=hh
    have hkl:k≤len1:=by rw [← hk];exact Nat.min_le_right _ _
    rcases hh with ⟨h3,h4,h5⟩ | ⟨b,arr,h3,hfp,h5,h6,h7⟩
    · simp only at h4 hrl;omega
    simp only at h3 h6 hrl hmax
    subst h3
    obtain ⟨ad,cap,s1,s2⟩:=hsrc τ a w G (hl y (by simp [ho,Op.operands,Call.operands])) (fun q hq=>hm' q (by simp [hq])) h
    obtain ⟨nvs,v1,v2,v3,v4⟩:=rows_vals (X:=⟨w,G.S⟩) (es:=es) (f:=fun j=>w.cell? (ad.add j)) news s2
    obtain ⟨t1,t2⟩:=vals_take hkn v1 v4
    obtain ⟨dd,hdd,hkk⟩:=hT.undd
    have:dd=.slice e:=by cases dd<;>simp [TK.of] at hkk;rw [hkk]
    subst this
    have hfit:(d+k) * es≤arr.size:=by rw [h6];exact Nat.mul_le_mul_right _ (by omega)
    have hfit':=hfit
    rw [Nat.add_mul] at hfit'
    have hr:=run_copy_es (P:=C.P) w T T2 o.type e b (d * es) len1 (c - d) ad L cap es arr ty (nvs.take (k * es)) hdd he.run_sizeOf h5 (by rw [t1,hk]) (fun j v hj=>by
      rw [List.getElem?_take] at hj
      split at hj
      · exact v2 j v hj
      · cases hj) (by rw [t1];exact hfit') (fun v hv=>v3 v (List.mem_of_mem_take hv))
    rw [hk] at hr
    have hbS:¬ G.S b:=h.stab ob b (by rw [hfp];simp)
    have hle:Wd.le ⟨w,G.S⟩ ⟨w.setRow b (arr.toList.take (d * es)++nvs.take (k * es)++arr.toList.drop (d * es+(nvs.take (k * es)).length)).toArray,G.S⟩:=fun q hq=>⟨hq,setRow_other w b q _ fun e=>hbS (e ▸ hq)⟩
    refine ⟨_,goInt k,_,by
      simp only [execOp,ho,resolve,invoke,builtin,Sem.run_bind,Sem.run_pure,Result.andThen_ok,List.map_toArray,List.map_cons,List.map_nil,k3,Option.map_some,s1,hr]
      rfl,.inl rfl,setRow_frame.1,setRow_frame.2.1,setRow_frame.2.2.1,setRow_frame.2.2.2,fun q _ hq=>setRow_other w b q _ fun e=>hq (by rw [hfp,e];simp),?_,rfl,rfl⟩
    have ht:(rows.take d++news.take k++rows.drop (d+k)).length≤c:=by
      simp only [List.length_append,List.length_take,List.length_drop];omega
    refine ⟨hes,hmax,ht,.inr ⟨b,_,rfl,hfp,setRow_heap w b _ _ ty _ h5,?_,?_⟩⟩
    · simp only [List.size_toArray,List.length_append,List.length_take,List.length_drop,Array.length_toList]
      omega
    · have:=rowsAt_over (k:=k) hes h7 t1 (by rw [List.length_take];omega) (by omega) hfit t2
      intro i row hrow
      refine ⟨(this i row hrow).1,fun j p hp=>?_⟩
      obtain ⟨u,hu,hpu⟩:=(this i row hrow).2 j p hp
      exact ⟨u,hu,p.mono hle hpu⟩
theorem src_aslC {x:Operand} {ob g off d len cap n es c ty:Nat} {rows:List (List PVal)} (hx:σ.look x=.o (.asl ob g off len cap)) (hm:σ.mem ob=(n,some (.abs (bufC ty es c rows)))) (hn:n=g+1) (hoff:off=d * es):SrcN C σ x es len (rows.drop d) (fun y=>y == ob):=fun τ a w G h1 h2 h=>by
  subst hn
  obtain ⟨b,c',k1,k2⟩:=look_of h (h1.trans hx)
  obtain ⟨g',m',hg,hmm,b',e1,hes,hmax,hrl,hfp,arr,h5,h6,h7⟩:=h.mem ob _ _ (by rw [h2 ob (by simp)];exact hm)
  obtain rfl:g=g':=by omega
  rw [k1] at hmm;obtain rfl:=Option.some.inj hmm
  simp only [Option.some.injEq] at e1
  subst e1
  refine ⟨⟨b,off,none⟩,cap,k2,fun i row hr=>?_⟩
  have hr':rows[d+i]?=some row:=by simpa using hr
  refine ⟨(h7 _ _ hr').1,fun j p hp=>?_⟩
  obtain ⟨u,hu,hpu⟩:=(h7 _ _ hr').2 j p hp
  exact ⟨u,by rw [cell_at rfl h5,← hu];congr 1;rw [hoff];simp only [Nat.add_mul];omega,hpu⟩
theorem lop_ap_zc {T Tn e:TypeId} {x y:Operand} {sz by_ szn bn:Nat} {ke:TK} {es be:Nat} {kn kq:IntKind} {z:List Value} {ob g len1 c n d nd ty k:Nat} {mo0:Option MO} {rows:List (List PVal)} {q:Int} (ho:o.op=.call ⟨.builtin .append,#[x,y],#[T,Tn]⟩) (hT:TI C.P T (.slice e) sz by_) (hTn:TI C.P Tn (.int kn) szn bn) (he:TI C.P e ke es be) (hz:TZ C.P e z) (hzl:z.length=es) (hz1:∀ v∈z,v.oneCell'=true) (hdst:o.dst=some d)
    (hx:σ.look x=.o (.asl ob g 0 len1 c)) (hm:σ.mem ob=(n,some (.abs (bufC ty es c rows)))) (hn:n=g+1) (hy:σ.look y=.p (.v (.int kq q))) (hq:q=(k:Int)) (h0:0 < k) (hl:len1≤rows.length) (hg:c < len1+k) (h63:len1+k≤1000000000000) (hby:(len1+k) * be≤140737488355328) (hmd:σ.mem d=(nd,mo0)) (hne:d≠ob) (hd:dOk C o.dst=true) :
    LOp C o σ ⟨.o (.osl d nd es 0 (len1+k)),[(d,(nd+1,some (.buf e es (rows.take len1++List.replicate k (z.map .v)))))]⟩ (fun q=>q == ob||q == d):=
  lop_gen (by simp) hd hmd fun τ a w G hl' hm' h=>by
    subst hn hq
    obtain ⟨b,c',k1,k2⟩:=look_of h ((hl' x (by simp [ho,Op.operands,Call.operands])).trans hx)
    have ey:=val_of h ((hl' y (by simp [ho,Op.operands,Call.operands])).trans hy)
    have hlen:(G.μ d).length=nd:=by have:=h.gens d;rw [hm' d (by simp),hmd] at this;exact this
    obtain ⟨g',m',hg',hmm,b',e1,hes,hmax,hrl,hfp,arr,h5,h6,h7⟩:=h.mem ob _ _ (by rw [hm' ob (by simp)];exact hm)
    obtain rfl:g=g':=by omega
    rw [k1] at hmm;obtain rfl:=Option.some.inj hmm
    simp only [Option.some.injEq] at e1
    subst e1
    obtain ⟨dd,hdd,hkk⟩:=hT.undd
    have:dd=.slice e:=by cases dd<;>simp [TK.of] at hkk;rw [hkk]
    subst this
    obtain ⟨dn,hdn,hkn⟩:=hTn.undd
    have:dn=.int kn:=by cases dn<;>simp [TK.of] at hkn;rw [hkn]
    subst this
    obtain ⟨i,hi,his,hib⟩:=he.infoo
    have hzz:=hz.zero
    simp only [hi,Option.bind_some] at hzz
    cases hz0:i.zero with
    | none=>simp [hz0] at hzz
    | some zv=>
      simp only [hz0,Option.map_some,Option.some.injEq] at hzz
      have hzs:zv.cells.size=es:=by rw [← hzl,← hzz];simp
      -- the first rows' values
      have hrt:∀ i row,(rows.take len1)[i]?=some row→row.length=es∧∀ j p,row[j]?=some p→∃ c,w.cell? ((⟨b,0,none⟩:Addr).add (i * es+j))=some c∧p.holds ⟨w,G.S⟩ c:=fun i row hr=>by
        have hr':rows[i]?=some row:=by
          rw [List.getElem?_take] at hr
          split at hr
          · exact hr
          · cases hr
        refine ⟨(h7 _ _ hr').1,fun j p hp=>?_⟩
        obtain ⟨u,hu,hpu⟩:=(h7 _ _ hr').2 j p hp
        exact ⟨u,by rw [cell_at rfl h5,← hu];congr 1;simp only [Nat.zero_add];done,hpu⟩
      obtain ⟨olds,v1,v2,v3,v4⟩:=rows_vals (X:=⟨w,G.S⟩) (es:=es) (f:=fun j=>w.cell? ((⟨b,0,none⟩:Addr).add j)) (rows.take len1) hrt
      have hl1:(rows.take len1).length=len1:=by rw [List.length_take];omega
      rw [hl1] at v1
      have hfc:(Builtin.firstCells i.size len1 (.slice (some ⟨b,0,none⟩) len1 c)).run C.P w.drew=.ok olds.toArray w.drew:=by
        have:=run_loadCells_list (P:=C.P) w.drew ⟨b,0,none⟩ olds v2
        rw [v1] at this
        rw [his]
        simpa [Builtin.firstCells] using this
      have hge:=grownCap_ge w (len1+k) c e
      have hcm:=grownCap_le_maxLen w (len1+k) c e (by simp only [maxLen];omega)
      have hfits:Builtin.nextslicecap (len1+k) c * i.bytes≤281474976710656:=growslice_fits hg (by rw [hib];exact hby)
      have hr:=Lib.run_append_grow_zeros (P:=C.P) (ty:=o.type) w T Tn e i zv kq kn hdd hdn hi hz0 (some ⟨b,0,none⟩) len1 c olds hfc k h0 (by rw [his];exact hes) hg (by omega) (by rw [hib];have:=Nat.mul_le_mul_right be (show k≤len1+k by omega);omega) hfits
      refine ⟨.slice (some ⟨w.heap.size,0,none⟩) (len1+k) (grownCap w (len1+k) c e),w.drew.alloc (.cells (olds.toArray++Builtin.zeroCells zv.cells k++Builtin.zeroCells zv.cells (grownCap w (len1+k) c e - (len1+k))) e),(some w.heap.size,grownCap w (len1+k) c e),[w.heap.size],by
        simp only [execOp,ho,resolve,invoke,builtin,Sem.run_bind,Sem.run_pure,Result.andThen_ok,List.map_toArray,List.map_cons,List.map_nil,k2,ey,hr],rfl,.same,rfl,by simp,fun q hq _=>Below.heap_alloc w.drew _ q hq,by simp,?_,?_⟩
      · have hzc:∀ m,(Builtin.zeroCells zv.cells m).size=m * es:=fun m=>by rw [size_zeroCells,hzs]
        have hsz:(olds.toArray++Builtin.zeroCells zv.cells k++Builtin.zeroCells zv.cells (grownCap w (len1+k) c e - (len1+k))).size=grownCap w (len1+k) c e * es:=by
          rw [Array.size_append,Array.size_append,hzc,hzc,List.size_toArray,v1,← Nat.add_mul,← Nat.add_mul]
          congr 1;omega
        refine ⟨hes,hcm,by simp only [List.length_append,List.length_replicate,hl1];exact hge,.inr ⟨w.heap.size,_,rfl,rfl,heap_alloc_new w.drew _,hsz,?_⟩⟩
        have hzr:∀ i row,(List.replicate k (z.map PVal.v))[i]?=some row→row.length=es∧∀ j p,row[j]?=some p→∃ c,(Builtin.zeroCells zv.cells k).toList[i * es+j]?=some c∧p.holds ⟨w,G.S⟩ c:=fun i row hr=>by
          rw [List.getElem?_replicate] at hr
          split at hr
          · rename_i hik
            obtain rfl:=Option.some.inj hr
            refine ⟨by rw [List.length_map,hzl],fun j p hp=>?_⟩
            rw [List.getElem?_map] at hp
            cases hzj:z[j]? with
            | none=>rw [hzj] at hp;cases hp
            | some v=>
              rw [hzj] at hp
              obtain rfl:=Option.some.inj hp
              have hj:j < es:=by rw [← hzl];exact (List.getElem?_eq_some_iff.1 hzj).1
              have hlt:i * es+j < k * es:=by
                have:(i+1) * es≤k * es:=Nat.mul_le_mul_right _ hik
                rw [Nat.add_mul] at this;omega
              refine ⟨v,?_,rfl,hz1 v (List.mem_of_getElem? hzj)⟩
              have hmod:(i * es+j) % es=j:=by rw [Nat.add_comm,Nat.add_mul_mod_self_right];exact Nat.mod_eq_of_lt hj
              have hzg:zv.cells[j]?=some v:=by rw [← hzj,← hzz];simp
              have hzb:zv.cells[j]! = v:=by rw [getElem!_def,hzg]
              simp [Builtin.zeroCells,hzs,hlt,hmod,hzb]
          · cases hr
        have:=rowsAt_append (X:=⟨w,G.S⟩) (arr:=olds.toArray++Builtin.zeroCells zv.cells k++Builtin.zeroCells zv.cells (grownCap w (len1+k) c e - (len1+k))) (es:=es) (rows:=rows.take len1) (news:=List.replicate k (z.map PVal.v)) (olds:=olds) (nvs:=(Builtin.zeroCells zv.cells k).toList)
          (by rw [hl1];exact v1) (by rw [List.length_replicate,Array.length_toList,hzc]) (by
            simp only [Array.toList_append,List.append_assoc]
            rw [← List.append_assoc]
            have hle:(olds++(Builtin.zeroCells zv.cells k).toList).length=((rows.take len1).length+(List.replicate k (z.map PVal.v)).length) * es:=by
              rw [List.length_append,v1,Array.length_toList,hzc,hl1,List.length_replicate,Nat.add_mul]
            rw [← hle]
            exact List.take_left) v4 hzr
        intro q row hrow
        refine ⟨(this q row hrow).1,fun j p hp=>?_⟩
        obtain ⟨u,hu,hpu⟩:=(this q row hrow).2 j p hp
        exact ⟨u,hu,p.mono (wle_drew_alloc (fun b hb=>(h.sbd b hb).1) _) hpu⟩
      · exact ⟨some w.heap.size,grownCap w (len1+k) c e,mu_new hlen,by simpa using hge,by simp⟩
end ops
end Go.Aw
namespace Go.Aw
open Go Go.RowKit
set_option linter.unusedVariables false
set_option linter.unusedSimpArgs false
class OvF (P:Program) (f:FuncId) (tS tR:TypeId):Prop where
  fn : ∃ fn, P.funcs[f]? = some fn ∧ (fn.name == "runtime.NumGoroutine") = false ∧ fn.body.isNone = true ∧ Extern.findNext fn = none ∧ Extern.find fn = some (Extern.SlicesOverlaps.overlaps #[tS, tS] #[tR])
theorem shape_of {w:World} {b:Nat} {arr:Array Value} {ty:TypeId} {fr:Nat × Nat} (h:w.heap[b]?=some (.cells arr ty fr)):w.shape? b=some (ty,arr.size):=by
  unfold World.shape?;rw [h]
theorem frozen_of {w:World} {b off:Nat} {arr:Array Value} {ty:TypeId} (h:w.heap[b]?=some (.cells arr ty (0,0))):w.frozen? ⟨b,off,none⟩=false:=by
  unfold World.frozen?;simp only [h];simp
theorem lop_ovl {C:Ctx} {o:Oper} {σ:St} {f:FuncId} {x y:Operand} {ts:Array TypeId} {tS tR e:TypeId} {sz by_:Nat} {ke:TK} {es be:Nat} {d gd nd tyd lend:Nat} {ob g off len cap c n ty:Nat} {rowsd rows:List (List PVal)} (hf:OvF C.P f tS tR) (hT:TI C.P tS (.slice e) sz by_) (he:TI C.P e ke es be) (ho:o.op=.call ⟨.value (.func f),#[x,y],ts⟩)
    (hx:σ.look x=.o (.osl d gd es 0 lend)) (hy:σ.look y=.o (.asl ob g off len cap)) (hmd:σ.mem d=(nd,some (.buf tyd es rowsd))) (hnd:nd=gd+1) (hm:σ.mem ob=(n,some (.abs (bufC ty es c rows)))) (hn:n=g+1) (hl:0 < rowsd.length) (hr:0 < rows.length) (hne:d≠ob) (hd:dOk C o.dst=true) :
    LOp C o σ ⟨.p (.v (.bool false)),[]⟩ (fun q=>q == d||q == ob):=
  lop_val hd fun τ a w G hl' hm' h=>by
    subst hnd hn
    obtain ⟨m1,c1,a1,a2,a3⟩:=look_of h ((hl' x (by simp [ho,Op.operands,Call.operands])).trans hx)
    obtain ⟨b2,c2,b1,b3⟩:=look_of h ((hl' y (by simp [ho,Op.operands,Call.operands])).trans hy)
    obtain ⟨g1,m1',d1,d2,d3,d4,d5,d6⟩:=h.mem d _ _ (by rw [hm' d (by simp)];exact hmd)
    obtain rfl:gd=g1:=by omega
    rw [a1] at d2;obtain rfl:=Option.some.inj d2
    obtain ⟨g2,m2,e1,e2,b,e3,hes,e4,e5,e6,arr,e7,e8,e9⟩:=h.mem ob _ _ (by rw [hm' ob (by simp)];exact hm)
    obtain rfl:g=g2:=by omega
    rw [b1] at e2;obtain rfl:=Option.some.inj e2
    simp only [Option.some.injEq] at e3
    subst e3
    rcases d6 with ⟨q1,q2,q3⟩ | ⟨b',arr',q1,q2,q3,q4,q5⟩
    · simp only at q2 d5;omega
    · simp only at q1;subst q1
      simp only [Option.map_some,Nat.zero_mul,Nat.sub_zero] at a3
      obtain ⟨fn,f1,f2,f3,f4,f5⟩:=hf.fn
      obtain ⟨dd,hdd,hkk⟩:=hT.undd
      have:dd=.slice e:=by cases dd<;>simp [TK.of] at hkk;rw [hkk]
      subst this
      have hnb:b'≠b2:=fun q=>h.apart d ob b' hne (by rw [q2];simp) (by rw [e6,q];simp)
      have hk0:arr.size≠0:=by
        rw [e8]
        have:0 < c * es:=Nat.mul_pos (by omega) hes
        omega
      have hr:=Lib.run_overlaps_apart (P:=C.P) w tS tR e hdd es he.run_sizeOf ⟨b',0,none⟩ ⟨b2,off,none⟩ lend c1 len cap hnb tyd ty arr'.size arr.size (shape_of q3) (shape_of e7) hk0 (frozen_of q3) (frozen_of q3)
      have hc:=run_callFunc_extern f1 f2 f3 f4 f5 #[.slice (some ⟨b',0,none⟩) lend c1,.slice (some ⟨b2,off,none⟩) len cap] w
      rw [hr] at hc
      have ef:a.eval (.func f)=.func (.func f) #[] #[]:=rfl
      refine ⟨.bool false,?_,rfl,rfl⟩
      simp only [execOp,ho,resolve,ef,Deferred.ofValue,invoke,program,Sem.run_bind,Sem.run_pure,Result.andThen_ok,List.map_toArray,List.map_cons,List.map_nil,a3,b3]
      simp [hc,pure,Sem.run]
theorem All2.set {α β:Type} {R:α→β→Prop} {l:List α} {m:List β} (h:All2 R l m) (i:Nat) {a:α} {b:β} (hab:R a b):All2 R (l.set i a) (m.set i b):=by
 refine ⟨by simp [h.1],fun j x y hx hy=>?_⟩
 rw [List.getElem?_set] at hx hy
 by_cases hij:i=j
 ·subst hij
  rw [if_pos rfl] at hx hy
  split at hx
  ·rw [if_pos (by rw [← h.1];assumption)] at hy
   cases hx;cases hy;exact hab
  ·cases hx
 ·rw [if_neg hij] at hx hy
  exact h.2 j x y hx hy
theorem ObjG.drew {mem:Nat→Nat × Option MO} {w:World} {G:Gh} (ho:ObjG mem w G):ObjG mem w.drew G:={
 gens:=ho.gens
 mem:=fun x n mo hx=>by
  obtain ⟨g2,m2,h1,h2,h3⟩:=ho.mem x n mo hx
  exact ⟨g2,m2,h1,h2,h3.mono (Mu.le.refl _) (fun b hb=>⟨hb,rfl⟩) fun _ _=>rfl⟩
 apart:=ho.apart
 stab:=ho.stab
 own:=ho.own
 sbd:=ho.sbd }
theorem RelG.mem' {C:Ctx} {σ:St} {a:Act} {w:World} {G:Gh} (h:RelG C σ a w G) {o n:Nat} {mo mo':MO} (hm:σ.mem o=(n,some mo)) (hh:∀ μ X m fp,mo.holds μ X m fp→(μ o).length=n→(∀ g,n=g+1→(μ o)[g]?=some m)→mo'.holds μ X m fp):∃ G',RelG C (σ.put o (n,some mo')) a w G':=by
 have hlen:(G.μ o).length=n:=by have:=h.gens o;rw [hm] at this;exact this
 obtain ⟨g',m,hg,hmm,hx⟩:=h.mem o _ _ hm
 have eμ:(fun x=>if x=o then G.μ o else G.μ x)=G.μ:=by funext x;split<;>simp_all
 refine ⟨_,h.upd (o:=o) (n':=n) (mo':=some mo') (μo:=G.μ o) (fp':=G.φ o) (w':=w) (fun g x hx=>hx) hlen rfl .same rfl (Nat.le_refl _) (fun _ _ _=>rfl) (fun b hb=>⟨.inl hb,(h.own o b hb).2⟩) (fun mo1 hmo=>?_)⟩
 obtain rfl:=Option.some.inj hmo
 refine ⟨g',m,hg,hmm,?_⟩
 rw [eμ]
 exact hh _ _ _ _ hx hlen fun g hgn=>by
  (obtain rfl:g'=g:=by omega);exact hmm
end Go.Aw
