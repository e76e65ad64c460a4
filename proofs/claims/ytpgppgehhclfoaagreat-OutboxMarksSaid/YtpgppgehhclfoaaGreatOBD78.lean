/- packs: slices.Insert of one element into an own slice -/
import Derived.Test.YtpgppgehhclfoaaGreatOBB87
import Derived.Test.YtpgppgehhclfoaaGreatOBB73
import Derived.Test.YtpgppgehhclfoaaGreatOBB74
import Derived.Test.YtpgppgehhclfoaaGreatOBB88
import Derived.Test.YtpgppgehhclfoaaGreatOBB56
import Derived.Test.YtpgppgehhclfoaaGreatOBB57
import Derived.Test.YtpgppgehhclfoaaGreatOBB82
import Derived.Test.YtpgppgehhclfoaaGreatOBB85
namespace Go.Proofs.YtpgppgehhclfoaaGreat.Wi
open Go Go.RowKit Go.Aw Go.Aw.Cart Go.Proofs.YtpgppgehhclfoaaGreat.Ca
set_option linter.unusedVariables false
set_option linter.unusedSimpArgs false
set_option maxRecDepth 8000
set_option maxHeartbeats 4000000
namespace WI
theorem lopC {C:Ctx} {o:Oper} {σ:St} {e:Eff} {ro:Nat→Bool} (h:LOp C o σ e ro:=by
  first|(apply lop_cap_asl;(focus rfl);(focus exact inferInstance);(focus rfl);(focus rfl))|exact lop_len_asl rfl rfl rfl|(apply lop_sl_asl_l;(focus rfl);(focus exact inferInstance);(focus exact inferInstance);(focus rfl);(focus rfl);(focus omega);(focus omega);(focus omega);(focus omega);(focus rfl))|(apply lop_sl_asl_h;(focus rfl);(focus exact inferInstance);(focus exact inferInstance);(focus rfl);(focus rfl);(focus omega);(focus omega);(focus rfl))|(apply lop_sl_osl_l;(focus rfl);(focus exact inferInstance);(focus exact inferInstance);(focus rfl);(focus rfl);(focus omega);(focus omega);(focus rfl))|(apply lop_sl_osl_u;(focus rfl);(focus exact inferInstance);(focus exact inferInstance);(focus rfl);(focus rfl);(focus omega);(focus omega);(focus rfl))|exact W9.lopC|fail):LOp C o σ e ro:=h
section steps
variable {C:Ctx} {ops:Array Oper} {o:Oper} {rest:List Oper} {K:St→Prop} {σ:St} {e:Eff} {ro:Nat→Bool} {W:List (Nat × Nat)} {i:Nat}
theorem rnC {d:Nat} (hg:Guard ops σ o true:=by first|exact gd_n rfl rfl|exact gd_t rfl rfl rfl rfl|exact gd_t rfl rfl rfl (by assumption)) (hd:o.dst=some d:=by rfl) (h:LOp C o σ e ro:=by exact lopC) (hk:RunN C ops rest K (e.app (some d) σ)):RunN C ops (o::rest) K σ:=rn_any hg hd h hk
theorem rkC {d:Nat} (hg:Guard ops σ o true:=by first|exact gd_n rfl rfl|exact gd_t rfl rfl rfl rfl|exact gd_t rfl rfl rfl (by assumption)) (hd':o.dst=some d:=by rfl) (hd:dOk C o.dst=true:=by rfl) (h:LOp C o σ e ro:=by exact lopC) (hro:∀ x,ro x=true→okObj ops W i x=true:=by first|exact fun _=>ro_none|exact ro_one rfl|exact ro_k1 rfl|exact ro_one (by kernel_rfl)|exact ro_k1 (by kernel_rfl)|exact ro_kIn (by decide)) (hob:∀ p∈e.obj,(i,p.1)∈W:=by first|exact ob_none|exact ob_one (by decide)|decide) (hk:RunK C ops W (i+1) rest K (e.app (some d) σ)):RunK C ops W i (o::rest) K σ:=rk_wr hg hd' hd h hro hob hk
end steps
end WI
open WI
end Go.Proofs.YtpgppgehhclfoaaGreat.Wi
namespace Go.Aw
open Go Go.RowKit
set_option linter.unusedVariables false
set_option linter.unusedSimpArgs false
theorem lop_store_rowp {C:Ctx} {o:Oper} {σ:St} {T:TypeId} {x y:Operand} {k:TK} {sz by_:Nat} [hT:TI C.P T k sz by_] {ob g n ty i es d:Nat} {rows:List (List PVal)} {old part:List PVal} {s:SV} (ho:o.op=.store T x y) (hdst:o.dst=none) (hx:σ.look x=.o (.ptr ob g (i * es+d))) (hy:σ.look y=.s s)
  (hsc:s.cells=part.map .p) (hrl:part.length=sz) (hm:σ.mem ob=(n,some (.buf ty es rows))) (hn:n=g+1) (hi:rows[i]?=some old) (hde:d+sz≤es):LOp C o σ ⟨.un,[(ob,(n,some (.buf ty es (rows.set i (old.take d++part++old.drop (d+sz))))))]⟩ (fun z=>z == ob):=
 lop_same (by simp) (by rw [hdst];rfl) hm fun τ a w G g0 m hl' hm' h hng hmm hh=>by
  subst hn
  obtain rfl:g=g0:=by omega
  obtain ⟨b,c',h1,h2⟩:=look_of h ((hl' x (by simp [ho,Op.operands])).trans hx)
  have h3:s.holds G.μ ⟨w,G.S⟩ (a.eval y):=look_of h ((hl' y (by simp [ho,Op.operands])).trans hy)
  obtain ⟨hes,hmax,hrl2,hh⟩:=hh
  rw [h1] at hmm;obtain rfl:=Option.some.inj hmm
  have hil:i < rows.length:=(List.getElem?_eq_some_iff.1 hi).1
  rcases hh with ⟨h4,_⟩ | ⟨b',arr,h4,h5,h6,h7,h8⟩
  ·simp at h4
  ·simp only [Option.some.injEq] at h4;subst h4
   have h9:=h3.cells
   rw [hsc] at h9
   have hvl:(a.eval y).cells.toList.length=sz:=by rw [← h9.1];simpa using hrl
   have hone:∀ u∈(a.eval y).cells.toList,u.oneCell'=true:=fun u hu=>by
    obtain ⟨j,hj,hu'⟩:=List.mem_iff_getElem.1 hu
    have hj':j < (part.map AC.p).length:=by rw [h9.1];exact hj
    exact (h9.2 j (part.map AC.p)[j] u (by simp [hj']) (by rw [← hu'];exact List.getElem?_eq_getElem _)).one
   have hmul:i * es+es≤arr.size:=by
    simp only at h7 hrl2
    rw [h7]
    calc i * es+es=(i+1) * es:=by rw [Nat.add_mul,Nat.one_mul]
     _≤c' * es:=Nat.mul_le_mul_right _ (by omega)
   have hsz:arr.toList.length=arr.size:=Array.length_toList
   have h6':w.heap[b]?=some (.cells arr.toList.toArray ty (0,0)):=by simpa using h6
   have hr:=run_storeVar hT h6' (off:=i * es+d) (v:=a.eval y) (by rw [hsz];omega) (by simpa using hvl) hone
   have hle:Wd.le ⟨w,G.S⟩ ⟨w.setRow b (arr.toList.take (i * es+d)++(a.eval y).cells.toList++arr.toList.drop (i * es+d+sz)).toArray,G.S⟩:=fun k hk=>
    ⟨hk,setRow_other w b k _ fun e=>h.stab ob b (by rw [h5];simp) (e ▸ hk)⟩
   have htl:(arr.toList.take (i * es+d)).length=i * es+d:=by rw [List.length_take];omega
   have hget:∀ (t:Nat) v,arr[t]?=some v→(t < i * es+d∨i * es+d+sz≤t)→(arr.toList.take (i * es+d)++(a.eval y).cells.toList++arr.toList.drop (i * es+d+sz))[t]?=some v:=fun t v hv ht=>by
    rw [List.append_assoc]
    rcases ht with ht|ht
    ·rw [List.getElem?_append_left (by omega),List.getElem?_take,if_pos ht];simpa using hv
    ·rw [List.getElem?_append_right (by omega),htl,List.getElem?_append_right (by omega),hvl,List.getElem?_drop]
     rw [show i * es+d+sz+(t - (i * es+d) - sz)=t by omega];simpa using hv
   refine ⟨.skip,undef,w.setRow b (arr.toList.take (i * es+d)++(a.eval y).cells.toList++arr.toList.drop (i * es+d+sz)).toArray,?_,.inr ⟨rfl,rfl⟩,setRow_frame.1,setRow_frame.2.1,setRow_frame.2.2.1,setRow_frame.2.2.2,
    fun k _ hk=>setRow_other w b k _ fun e=>hk (by rw [h5,e];simp),⟨hes,hmax,by simpa using hrl2,.inr ⟨b,_,rfl,h5,setRow_heap w b _ _ ty _ h6',?_,?_⟩⟩,trivial⟩
   ·simp only [execOp,ho,h2,Instr.storeAt,Instr.sureAddr,Sem.run_bind,Sem.run_pure,Result.andThen_ok,hr]
   ·simp only [List.size_toArray,List.length_append,List.length_take,List.length_drop,Array.length_toList,hvl]
    rw [Nat.min_eq_left (by omega)]
    simp only at h7;omega
   ·intro q r hq
    by_cases hqi:q=i
    ·subst hqi
     rw [List.getElem?_set_self hil] at hq
     obtain rfl:=Option.some.inj hq
     obtain ⟨e1,e2⟩:=h8 q old hi
     have hol:(old.take d).length=d:=by rw [List.length_take];omega
     refine ⟨by rw [List.length_append,List.length_append,hol,hrl,List.length_drop];omega,fun j p hp=>?_⟩
     simp only [Nat.zero_add,List.getElem?_toArray]
     by_cases hj1:j < d
     ·rw [List.append_assoc,List.getElem?_append_left (by omega),List.getElem?_take,if_pos hj1] at hp
      obtain ⟨v,hv,hpv⟩:=e2 j p hp
      rw [Nat.zero_add] at hv
      exact ⟨v,hget _ v hv (.inl (by omega)),p.mono hle hpv⟩
     ·by_cases hj2:j < d+sz
      ·rw [List.append_assoc,List.getElem?_append_right (by omega),hol,List.getElem?_append_left (by omega)] at hp
       obtain ⟨v,hv,hpv⟩:=h9.get (i:=j - d) (a:=.p p) (by simp [hp])
       refine ⟨v,?_,p.mono hle hpv⟩
       rw [List.append_assoc,List.getElem?_append_right (by omega),htl,List.getElem?_append_left (by omega),← hv]
       congr 1;omega
      ·rw [List.append_assoc,List.getElem?_append_right (by omega),hol,List.getElem?_append_right (by omega),hrl,List.getElem?_drop] at hp
       rw [show d+sz+(j - d - sz)=j by omega] at hp
       obtain ⟨v,hv,hpv⟩:=e2 j p hp
       rw [Nat.zero_add] at hv
       exact ⟨v,hget _ v hv (.inr (by omega)),p.mono hle hpv⟩
    ·rw [List.getElem?_set_ne (fun e=>hqi e.symm)] at hq
     obtain ⟨e1,e2⟩:=h8 q r hq
     refine ⟨e1,fun j p hp=>?_⟩
     obtain ⟨v,hv,hpv⟩:=e2 j p hp
     have hj:j < es:=by rw [← e1];exact (List.getElem?_eq_some_iff.1 hp).1
     simp only [Nat.zero_add,List.getElem?_toArray]
     rw [Nat.zero_add] at hv
     refine ⟨v,hget _ v hv ?_,p.mono hle hpv⟩
     rcases Nat.lt_or_ge q i with hlt|hge
     ·have:q * es+es≤i * es:=by
       calc q * es+es=(q+1) * es:=by rw [Nat.add_mul,Nat.one_mul]
        _≤i * es:=Nat.mul_le_mul_right _ hlt
      left;omega
     ·have:i * es+es≤q * es:=by
       calc i * es+es=(i+1) * es:=by rw [Nat.add_mul,Nat.one_mul]
        _≤q * es:=Nat.mul_le_mul_right _ (by omega)
      right;omega
end Go.Aw
namespace Go.Proofs.YtpgppgehhclfoaaGreat.Wi
open Go Go.RowKit Go.Aw Go.Aw.Cart Go.Proofs.YtpgppgehhclfoaaGreat.Ca
set_option linter.unusedVariables false
set_option linter.unusedSimpArgs false
set_option maxRecDepth 8000
set_option maxHeartbeats 4000000
namespace WE
theorem lopC {C:Ctx} {o:Oper} {σ:St} {e:Eff} {ro:Nat→Bool} (h:LOp C o σ e ro:=by
  first|(apply lop_lend2;(focus rfl);(focus exact inferInstance);(focus rfl);(focus rfl);(focus rfl);(focus exact (List.length_map ..).symm);(focus first|exact lk_m1 rfl|exact lk_m2 rfl|exact lk_m3 rfl|exact lk_o rfl|exact lk_a2 rfl|exact lk_a3 rfl|exact lk_a4 rfl|exact lk_a1 rfl|exact lk_a5 rfl|exact lk_a6 rfl|exact lk_a7 rfl|exact lk_a8 rfl|exact lk_a rfl);(focus exact inferInstance);(focus exact inferInstance);(focus first|exact True.intro|assumption|rfl|omega|((repeat' (first|assumption|refine And.intro ?_ ?_|omega|rfl));done)|fail);(focus exact RV.v);(focus rfl))|exact WD.lopC|fail):LOp C o σ e ro:=h
section steps
variable {C:Ctx} {ops:Array Oper} {o:Oper} {rest:List Oper} {K:St→Prop} {σ:St} {e:Eff} {ro:Nat→Bool} {W:List (Nat × Nat)} {i:Nat}
theorem rnC {d:Nat} (hg:Guard ops σ o true:=by first|exact gd_n rfl rfl|exact gd_t rfl rfl rfl rfl|exact gd_t rfl rfl rfl (by assumption)) (hd:o.dst=some d:=by rfl) (h:LOp C o σ e ro:=by exact lopC) (hk:RunN C ops rest K (e.app (some d) σ)):RunN C ops (o::rest) K σ:=rn_any hg hd h hk
theorem rkC {d:Nat} (hg:Guard ops σ o true:=by first|exact gd_n rfl rfl|exact gd_t rfl rfl rfl rfl|exact gd_t rfl rfl rfl (by assumption)) (hd':o.dst=some d:=by rfl) (hd:dOk C o.dst=true:=by rfl) (h:LOp C o σ e ro:=by exact lopC) (hro:∀ x,ro x=true→okObj ops W i x=true:=by first|exact fun _=>ro_none|exact ro_one rfl|exact ro_k1 rfl|exact ro_one (by kernel_rfl)|exact ro_k1 (by kernel_rfl)|exact ro_kIn (by decide)) (hob:∀ p∈e.obj,(i,p.1)∈W:=by first|exact ob_none|exact ob_one (by decide)|decide) (hk:RunK C ops W (i+1) rest K (e.app (some d) σ)):RunK C ops W i (o::rest) K σ:=rk_wr hg hd' hd h hro hob hk
end steps
end WE
open WE
end Go.Proofs.YtpgppgehhclfoaaGreat.Wi
namespace Go.Proofs.YtpgppgehhclfoaaGreat.Wi
open Go Go.RowKit Go.Aw Go.Aw.Cart Go.Proofs.YtpgppgehhclfoaaGreat.Ca
set_option linter.unusedVariables false
set_option linter.unusedSimpArgs false
theorem kd_back {k:Kd} (hl:k.1.length≤20) (hr:rightF k.2.1 k.2.2=true) (hv:vecOk k.2.1) (q:List Nat):kdS (kdB k++q,0)=(k,(q,0)):=by
 unfold kdB
 rw [List.append_assoc]
 simp only [kdS,bindS,pureS,text_back (b:=k.1) (most:=20) (by omega) (by decide),cart_back (c:=k.2) hr hv]
theorem list_back {l:List Kd} (h:KOk l) (hv:∀ k∈l,vecOk k.2.1) (q:List Nat):listS (listB l++q,0)=(l,(q,0)):=by
 have hm:=many_back (P:=kdS) (enc:=kdB) (L:=l) (fun a ha q=>kd_back (h.key a ha) (h.cart a ha) (hv a ha) q) q l.length (Nat.le_refl _)
 unfold listB
 rw [List.append_assoc]
 simp only [listS,bindS,small_back (x:=l.length) (most:=2000) (by have:=h.few;omega) (by decide),Int.toNat_natCast,hm,List.take_length,List.drop_length,List.flatMap_nil,List.nil_append]
theorem readL_back {l:List Kd} (h:KOk l) (hv:∀ k∈l,vecOk k.2.1):readL (listB l)=(l,0):=by
 have:=list_back h hv []
 rw [List.append_nil] at this
 unfold readL
 rw [this,if_neg]
 rintro (h1|h1)
 ·exact h1 rfl
 ·rw [keys_iff.2 h] at h1;cases h1
def c10:Crt:=([1,0,0,0,0,0,0,0],[(5,1,1,2)])
theorem c10_right:rightF c10.1 c10.2=true:=rightF_iff.2 ⟨by decide,by decide,by decide⟩
theorem z10_right:rightF zeroV []=true:=rightF_iff.2 ⟨by decide,by decide,by decide⟩
theorem c10_vec:vecOk c10.1:=⟨rfl,by decide⟩
def l10:List Kd:=[([97],(zeroV,[])),([98],c10)]
theorem l10_ok:KOk l10 where
 few:=by decide
 up:=by decide
 key:=by decide
 cart:=by
  intro e he
  simp only [l10,List.mem_cons,List.not_mem_nil,or_false] at he
  rcases he with rfl|rfl
  ·exact z10_right
  ·exact c10_right
end Go.Proofs.YtpgppgehhclfoaaGreat.Wi
namespace Go.Aw
open Go Go.RowKit
end Go.Aw
namespace Go.Proofs.YtpgppgehhclfoaaGreat.Wi
open Go Go.RowKit Go.Aw Go.Aw.Cart Go.Proofs.YtpgppgehhclfoaaGreat.Ca
set_option linter.unusedVariables false
set_option linter.unusedSimpArgs false
set_option maxRecDepth 8000
set_option maxHeartbeats 4000000
open WE
abbrev cA (ex:Bool):List AC:=[.p (.k .u64 1),.p (.k .u64 0),.p (.k .u64 0),.p (.k .u64 0),.p (.k .u64 0),.p (.k .u64 0),.p (.k .u64 0),.p (.k .u64 0),.p (.sl 4 [[.i 5,.i 1,.k .u64 1,.i 2]] ex)]
theorem ok98:okB [98]:=by intro c hc;simp at hc;omega
theorem ok97:okB [97]:=by intro c hc;simp at hc;omega
theorem kdi10:∀ k∈l10,KdI k:=by
 intro k hk
 simp only [l10,List.mem_cons,List.not_mem_nil,or_false] at hk
 rcases hk with rfl|rfl
 ·exact ⟨ok97,by decide,zeroV_ok,by decide⟩
 ·exact ⟨ok98,by decide,c10_vec,by decide⟩
theorem s1 (L2:List Kd) (S:List Nat) (hL2:L2=l10) (hS:S=listB l10):PCall Tryz.prog 62 [.p (.sl 10 (L2.map kR) false)] (.tup [.one (.p (.sl 1 (S.map bR) false)),.one (.p (.i 0))]):=by
 rw [hL2,hS];exact writeAll_ok l10 false (keys_iff.2 l10_ok) kdi10
theorem s2 (L2:List Kd) (S:List Nat) (hL2:L2=l10) (hS:S=listB l10) (hb:okB (listB l10)) (hl:(listB l10).length≤1000):PCall Tryz.prog 68 [.p (.sl 1 (S.map bR) false)] (.tup [.one (.p (.sl 10 (L2.map kR) false)),.one (.p (.i 0))]):=by
 have h:=readAll_w (listB l10) false hb (by omega)
 rw [readL_back l10_ok fun k hk=>(kdi10 k hk).vec] at h
 rw [hL2,hS];exact h
end Go.Proofs.YtpgppgehhclfoaaGreat.Wi
namespace Go.Proofs.YtpgppgehhclfoaaGreat.Wi
open Go Go.RowKit Go.Aw Go.Aw.Cart Go.Proofs.YtpgppgehhclfoaaGreat.Ca
set_option linter.unusedVariables false
set_option linter.unusedSimpArgs false
set_option maxRecDepth 8000
set_option maxHeartbeats 4000000
open WE
end Go.Proofs.YtpgppgehhclfoaaGreat.Wi
namespace Go.Proofs.YtpgppgehhclfoaaGreat.Wi
open Go Go.RowKit Go.Aw Go.Aw.Cart Go.Proofs.YtpgppgehhclfoaaGreat.Ca
set_option linter.unusedVariables false
set_option linter.unusedSimpArgs false
theorem okB_app {a b:List Nat} (ha:okB a) (hb:okB b):okB (a++b):=fun c hc=>(List.mem_append.1 hc).elim (ha c) (hb c)
theorem okB_flat {α:Type} {f:α→List Nat} {l:List α} (h:∀ x∈l,okB (f x)):okB (l.flatMap f):=fun c hc=>by
 obtain ⟨x,hx,hc⟩:=List.mem_flatMap.1 hc
 exact h x hx c hc
theorem numB_ok (x:Nat):okB (numB x):=fun c hc=>by
 rcases List.mem_cons.1 hc with rfl|h
 ·have:=beF_le 8 x
  show (beF 8 x).length < 256
  omega
 ·exact beF_byte 8 x c h
theorem cartB_ok (c:Crt):okB (cartB c):=by
 refine okB_app (okB_flat fun n _=>numB_ok _) (okB_app (numB_ok _) (okB_flat fun e _=>?_))
 exact okB_app (numB_ok _) (okB_app (numB_ok _) (okB_app (numB_ok _) (numB_ok _)))
theorem listB_ok {l:List Kd} (h:∀ k∈l,okB k.1):okB (listB l):=
 okB_app (numB_ok _) (okB_flat fun k hk=>okB_app (okB_app (numB_ok _) (h k hk)) (cartB_ok _))
end Go.Proofs.YtpgppgehhclfoaaGreat.Wi
namespace Go.Proofs.YtpgppgehhclfoaaGreat.Wi
open Go Go.RowKit Go.Aw Go.Aw.Cart Go.Proofs.YtpgppgehhclfoaaGreat.Ca
set_option linter.unusedVariables false
set_option linter.unusedSimpArgs false
set_option maxRecDepth 8000
set_option maxHeartbeats 4000000
open WE
end Go.Proofs.YtpgppgehhclfoaaGreat.Wi
namespace Go.Proofs.YtpgppgehhclfoaaGreat.Wi
open Go Go.RowKit Go.Aw Go.Aw.Cart Go.Proofs.YtpgppgehhclfoaaGreat.Ca
set_option linter.unusedVariables false
set_option linter.unusedSimpArgs false
section
attribute [local irreducible] bindS smallS numZ intS pureS manyS vecS mustU okS textS entS
end
section
attribute [local irreducible] bindS smallS numZ intS pureS manyS vecS mustU okS textS entS cartS
end
end Go.Proofs.YtpgppgehhclfoaaGreat.Wi
