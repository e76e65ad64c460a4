/- the reference's reader: a cart -/
import Derived.Test.YtcbhmngagibhmaaGreatPRA14
import Derived.Test.YtcbhmngagibhmaaGreatPRA16
import Derived.Test.YtcbhmngagibhmaaGreatPRA19
import Derived.Test.YtcbhmngagibhmaaGreatPRA20
import Derived.Test.YtcbhmngagibhmaaGreatPRA23
import Derived.Test.YtcbhmngagibhmaaGreatPRA13
namespace Go.Proofs.YtcbhmngagibhmaaGreat.Wi
open Go Go.RowKit Go.Aw Go.Aw.Cart Go.Proofs.YtcbhmngagibhmaaGreat.Ca
set_option linter.unusedVariables false
set_option linter.unusedSimpArgs false
set_option maxRecDepth 8000
set_option maxHeartbeats 4000000
theorem entS_at {r r1 r2 r3 r4:RS} {a b d:Int} {c:Nat} (h1:smallS 60 r=(a,r1)) (h2:smallS 8 r1=(b,r2)) (h3:numS r2=(c,r3)) (h4:intS r3=(d,r4)):entS r=((a,b,(c:Int),d),r4):=by
 simp only [entS,numZ,bindS,pureS,h1,h2,h3,h4]
open W8
attribute [local irreducible] vecS smallS entS cartS
theorem rftake_o (n:Nat) (b:List Nat) (r:RS) (hr:RfOk b r):OCall Tryz.prog 147 [.o (.ptr 1000 n 0)] (memL [(1000,(n+1,some (rfM b r)))]) (cV (cartS r).1.1 (cartS r).1.2 false) (memL [(1000,(n+1,some (rfM b (cartS r).2)))]):=by
 refine ocall_of1 Tryz.func147 rfl (fun w0 F S0 M0=>?_)
 have hv8:=vec_len8 r
 rw [cartS_eq]
 obtain ⟨V,r1,h1⟩:∃ a r1,vecS r=(a,r1):=pr_ex _
 have o1:RfOk b r1:=by have:=par_vec.rf hr;rwa [h1] at this
 haveI:∀ p g m:Nat,OC Tryz.prog 190 [.o (.ptr p g 0)] [(p,(m,some (rfM b r)))] [] (m=g+1) (.a (v8L V)) [(p,(m,some (rfM b r1)))]:=fun p g m=>⟨fun h=>by
  obtain rfl:=h
  have:=(rfvec_o g b r hr).one p
  rw [ren_vV,vV8 hv8,h1] at this
  exact this⟩
 rw [h1] at hv8 ⊢
 clear h1
 dsimp only at hv8 ⊢
 obtain ⟨k,hk⟩:=small_nat 400 r1
 obtain ⟨r2,h2⟩:∃ r2,(smallS 400 r1).2=r2:=⟨_,rfl⟩
 have o2:RfOk b r2:=by have:=(par_small 400).rf o1;rwa [h2] at this
 haveI:∀ p g m:Nat,OC Tryz.prog 72 [.o (.ptr p g 0),.p (.i 400)] [(p,(m,some (rfM b r1)))] [] (m=g+1) (.p (.i (k:Int))) [(p,(m,some (rfM b r2)))]:=fun p g m=>⟨fun h=>by obtain rfl:=h;have:=(rfsmall_o g b r1 400 (by decide) (by decide) o1).one p;rwa [hk,h2] at this⟩
 have hk4:(k:Int)≤400:=by rw [← hk];exact small_le (by decide) r1
 rw [hk,h2,Int.toNat_natCast]
 clear hk h2
 have okS_is:∀ (a z:Crt) (q:RS),okS a z q=(if q.2=0 then a else z,q):=fun _ _ _=>rfl
 rw [okS_is]
 repeat' (first|refine jx5 ?_|refine jy0 ?_ ?_|exact spF|refine spQ fun hq hq'=>?_|refine spN fun hn=>?_|fail)
 refine aws_says (says_nil_at (p:=3) (k:=8) (o:=901) (ty:=258) (es:=4) (ds:=v8L V++[.osl 901 0 4 0 0]) rfl rfl rfl rfl (by decide) (by decide)) ?_
 refine aws_loopS [5,6,12,13,14,15,16,17,18,19,20,21,22,23,24,25,26,27,28,29,30,31,32,33,34,35,36,37,38,39,40,41] [1000,3,901,6] (fun (x:Nat × Nat × List Ent × RS × Option MO)=>[(5,.p (.i x.1))]) (fun x=>[(1000,(n+1,some (rfM b x.2.2.2.1))),(3,(1,some (.box 215 (v8L V++[.osl 901 x.2.1 4 0 x.2.2.1.length])))),(901,(x.2.1+1,some (.buf 258 4 (x.2.2.1.map eR)))),(6,(x.1,x.2.2.2.2))])
  (fun x=>x.1≤k∧manyS entS x.1 r2=(x.2.2.1,x.2.2.2.1)) (fun x=>k - x.1) (0,0,[],r2,none) ⟨Nat.zero_le _,rfl⟩ (by exact knA) (by exact knA) ?_
 rintro ⟨i,g,L,q,c6⟩ β γ ⟨hi,hL⟩
 dsimp only at hi hL ⊢
 have hll:L.length≤400:=by have:=many_len entS r2 i;rw [hL] at this;dsimp only at this;omega
 have oq:RfOk b q:=by have:=(par_many par_ent i).rf o2;rwa [hL] at this
 by_cases hik:i < k∧q.2=0
 ·obtain ⟨hik,hq⟩:=hik
  have d1:decide ((i:Int) < (k:Int))=true:=decide_eq_true (by omega)
  have d2:decide (q.2=0)=true:=decide_eq_true hq
  have hn:manyS entS (i+1) r2=(L++[(entS q).1],(entS q).2):=by rw [manyS,hL,if_pos hq]
  obtain ⟨e1,q1,h1⟩:=pr_ex (smallS 60 q)
  have oq1:RfOk b q1:=by have:=(par_small 60).rf oq;rwa [h1] at this
  obtain ⟨e2,q2,h2⟩:=pr_ex (smallS 8 q1)
  have oq2:RfOk b q2:=by have:=(par_small 8).rf oq1;rwa [h2] at this
  obtain ⟨e3,q3,h3⟩:=pr_ex (numS q2)
  have oq3:RfOk b q3:=by have:=par_num.rf oq2;rwa [h3] at this
  obtain ⟨e4,q4,h4⟩:=pr_ex (intS q3)
  rw [entS_at h1 h2 h3 h4] at hn
  dsimp only at hn
  obtain ⟨e,he⟩:∃ e:Ent,e=(e1,e2,(e3:Int),e4):=⟨_,rfl⟩
  rw [← he] at hn
  haveI:∀ p g m:Nat,OC Tryz.prog 72 [.o (.ptr p g 0),.p (.i 60)] [(p,(m,some (rfM b q)))] [] (m=g+1) (.p (.i e.1)) [(p,(m,some (rfM b q1)))]:=fun p g m=>⟨fun h=>by obtain rfl:=h;have:=(rfsmall_o g b q 60 (by decide) (by decide) oq).one p;rw [h1] at this;rw [he];exact this⟩
  haveI:∀ p g m:Nat,OC Tryz.prog 72 [.o (.ptr p g 0),.p (.i 8)] [(p,(m,some (rfM b q1)))] [] (m=g+1) (.p (.i e.2.1)) [(p,(m,some (rfM b q2)))]:=fun p g m=>⟨fun h=>by obtain rfl:=h;have:=(rfsmall_o g b q1 8 (by decide) (by decide) oq1).one p;rw [h2] at this;rw [he];exact this⟩
  haveI:∀ p g m:Nat,OC Tryz.prog 109 [.o (.ptr p g 0)] [(p,(m,some (rfM b q2)))] [] (m=g+1) (.p (.k .u64 e.2.2.1)) [(p,(m,some (rfM b q3)))]:=fun p g m=>⟨fun h=>by obtain rfl:=h;have:=(rfnum_o g b q2 oq2).one p;rw [h3] at this;rw [he];exact this⟩
  haveI:∀ p g m:Nat,OC Tryz.prog 164 [.o (.ptr p g 0)] [(p,(m,some (rfM b q3)))] [] (m=g+1) (.p (.i e.2.2.2)) [(p,(m,some (rfM b q4)))]:=fun p g m=>⟨fun h=>by obtain rfl:=h;have:=(rfint_o g b q3 oq3).one p;rw [h4] at this;rw [he];exact this⟩
  clear he h1 h2 h3 h4 oq oq1 oq2 oq3
  as_aux_lemma=>
   repeat' (first|refine jx5 ?_|refine jy0 ?_ ?_|exact spF|refine spQ fun hq hq'=>?_|refine spN fun hn=>?_|fail)
   exact ⟨(i+1,g+1,L++[e],q4,_),_,by dsimp only;omega,⟨by dsimp only;omega,hn⟩,.refl,by exact frA⟩
 ·have hm:manyS entS k r2=(L,q):=by
   by_cases h:i < k
   ·have hq:q.2≠0:=fun hq=>hik ⟨h,hq⟩
    have:=many_bad (P:=entS) r2 (k:=i) (by rw [hL];exact hq) (k - i)
    rw [show i+(k - i)=k by omega] at this
    rw [this,hL]
   ·rw [show k=i by omega,hL]
  have hex:decide ((i:Int) < (k:Int))=false∨(decide ((i:Int) < (k:Int))=true∧decide (q.2=0)=false):=by
   by_cases h:i < k
   ·exact .inr ⟨decide_eq_true (by omega),decide_eq_false fun hq=>hik ⟨h,hq⟩⟩
   ·exact .inl (decide_eq_false (by omega))
  rw [hm]
  dsimp only
  clear hm hL hik
  haveI:PC Tryz.prog 191 [cV V L false] True (.p (.b (rightF V L))):=⟨fun _=>Cr.right_r V L false hv8 (by omega)⟩
  refine aws_says (says_frz_at (p:=3) (k:=8) (o:=901) (ds:=cL V L false) rfl rfl rfl rfl rfl (by rw [List.length_map]) (by decide)) ?_
  generalize rightF V L=B at this ⊢
  haveI m2:OC Tryz.prog 110 [.o (.ptr 1000 n 0),.p (.b B)] [(1000,(n+1,some (rfM b q)))] [] True (.tup []) [(1000,(n+1,some (rfM b (mustS B q))))]:=⟨fun _=>(rmust_o n b q B).one 1000⟩
  generalize mustS B q=q2 at m2 ⊢
  by_cases hz:q2.2=0
  ·have d4:decide (q2.2≠0)=false:=decide_eq_false fun h=>h hz
   rw [if_pos hz]
   rcases hex with d1 | ⟨d1,d2⟩
   all_goals
    as_aux_lemma=>
     repeat' (first|refine jx5 ?_|refine jy0 ?_ ?_|exact spF|refine spQ fun hq hq'=>?_|refine spN fun hn=>?_|fail)
     exact RetO.mk (oc1 rfl rfl rfl rfl rfl rfl finL_p rfl) ⟨.box finL_p,trivial⟩
  ·have d4:decide (q2.2≠0)=true:=decide_eq_true hz
   rw [if_neg hz]
   rcases hex with d1 | ⟨d1,d2⟩
   all_goals
    as_aux_lemma=>
     repeat' (first|refine jx5 ?_|refine jy0 ?_ ?_|exact spF|refine spQ fun hq hq'=>?_|refine spN fun hn=>?_|fail)
     exact RetO.mk (oc1 rfl rfl rfl rfl rfl rfl fin9 rfl) ⟨.box finL_p,trivial⟩
end Go.Proofs.YtcbhmngagibhmaaGreat.Wi
namespace Go.Proofs.YtcbhmngagibhmaaGreat.Wi
open Go Go.RowKit Go.Aw Go.Aw.Cart Go.Proofs.YtcbhmngagibhmaaGreat.Ca
set_option linter.unusedVariables false
set_option linter.unusedSimpArgs false
set_option maxRecDepth 8000
set_option maxHeartbeats 4000000
open WA
theorem atI_0 (b:List Nat):atI b (b,0)=0:=by unfold atI;dsimp only;omega
theorem lop_st_t9 {C:Ctx} {o:Oper} {σ:St} {T:TypeId} {x y:Operand} {k:TK} {sz by_:Nat} {ob g n:Nat} {ty:TypeId} {c0:AC} {cs ds:List AC} (ho:o.op=.store T x y) (hT:TI C.P T k sz by_) (hdst:o.dst=none) (hx:σ.look x=.o (.ptr ob g (0+1))) (hy:σ.look y=.a ds) (hm:σ.mem ob=(n,some (.box ty (c0::cs)))) (hn:n=g+1)
  (hl:cs.length=9) (hd:ds.length=9) (hs:sz=9):LOp C o σ ⟨.un,[(ob,(n,some (.box ty (c0::ds))))]⟩ (fun z=>z == ob):=by
 have:=lop_store (o:=o) (hT:=hT) (s:=.agg ds) ho hdst hx hy hm hn (by simp;omega) (by simp [SV.cells];omega)
 rw [hs] at this
 have e:(c0::cs).take (0+1)++SV.cells (.agg ds)++(c0::cs).drop (0+1+9)=c0::ds:=by
  rw [List.drop_of_length_le (by simp;omega),List.append_nil];rfl
 rwa [e] at this
attribute [local irreducible] vecS smallS entS cartS textS kdS
theorem refReadAll_w (b:List Nat) (hb:okB b) (hbl:b.length≤1000000000):PCall Tryz.prog 74 [.p (.sl 1 (b.map bR) false)] (.tup [.one (.p (.sl 10 ((readL b).1.map kR) false)),.one (.p (.b (decide ((readL b).2=0))))]):=by
 refine pcall_of Tryz.func74 rfl (fun w0 F S0 M0=>?_)
 have o1:RfOk b (b,0):=⟨hb,List.suffix_refl _,hbl⟩
 unfold readL
 rw [listS_eq]
 obtain ⟨k,hk⟩:=small_nat 2000 (b,0)
 have hk2:(k:Int)≤2000:=by rw [← hk];exact small_le (by decide) _
 obtain ⟨r2,h2⟩:∃ r2,(smallS 2000 (b,0)).2=r2:=⟨_,rfl⟩
 have o2:RfOk b r2:=by have:=(par_small 2000).rf o1;rwa [h2] at this
 have o2':rdOk r2:=⟨o2.byte,o2.rd⟩
 haveI:∀ p g m:Nat,OC Tryz.prog 72 [.o (.ptr p g 0),.p (.i 2000)] [(p,(m,some (.box 143 [.p (.sl 1 (b.map bR) false),.p (.i 0),.p (.i 0)])))] [] (m=g+1) (.p (.i (k:Int))) [(p,(m,some (rfM b r2)))]:=fun p g m=>⟨fun h=>by
  obtain rfl:=h
  have:=(rfsmall_o g b (b,0) 2000 (by decide) (by decide) o1).one p
  rw [hk,h2] at this
  unfold rfM at this
  rw [atI_0] at this
  exact this⟩
 rw [hk,h2,Int.toNat_natCast]
 clear hk h2
 repeat' (first|refine jx5 ?_|refine jy0 ?_ ?_|exact spF|refine spQ fun hq hq'=>?_|refine spN fun hn=>?_|fail)
 refine aws_says (says_nil (t:=6) (o:=901) (ty:=218) (es:=10) rfl rfl (by decide)) ?_
 refine aws_loopS [6,7,8,14,15,16,17,18,19,20,21,22,23,24,25,26,27,28,29,30,31,32,33,34,35,36] [11,901,8] (fun (x:Nat × Nat × List Kd × RS × Option MO)=>[(7,.p (.i x.1)),(6,.o (.osl 901 x.2.1 10 0 x.2.2.1.length))]) (fun x=>[(11,(1,some (rfM b x.2.2.2.1))),(901,(x.2.1+1,some (.buf 218 10 (x.2.2.1.map kR)))),(8,(x.1,x.2.2.2.2))])
  (fun x=>x.1≤k∧manyS kdS x.1 r2=(x.2.2.1,x.2.2.2.1)) (fun x=>k - x.1) (0,0,[],r2,none) ⟨Nat.zero_le _,rfl⟩ (by exact knA) (by exact knA) ?_
 rintro ⟨i,g,L,q,c8⟩ β γ ⟨hi,hL⟩
 dsimp only at hi hL ⊢
 have hll:L.length≤2000:=by have:=many_len kdS r2 i;rw [hL] at this;dsimp only at this;omega
 have oq:RfOk b q:=by have:=(par_many par_kd i).rf o2;rwa [hL] at this
 by_cases hik:i < k∧q.2=0
 ·obtain ⟨hik,hq⟩:=hik
  have d1:decide ((i:Int) < (k:Int))=true:=decide_eq_true (by omega)
  have d2:decide (q.2=0)=true:=decide_eq_true hq
  have hn:manyS kdS (i+1) r2=(L++[(kdS q).1],(kdS q).2):=by rw [manyS,hL,if_pos hq]
  rw [kdS_eq] at hn
  have ht:=text_fit (most:=20) (by decide) q ⟨oq.byte,oq.rd⟩
  obtain ⟨k1,q1,h1⟩:=pr_ex (textS 20 q)
  have oq1:RfOk b q1:=by have:=(par_text 20).rf oq;rwa [h1] at this
  obtain ⟨c1,q2,h3⟩:=pr_ex (cartS q1)
  rw [h1] at hn ht
  dsimp only at hn ht
  rw [h3] at hn
  dsimp only at hn
  obtain ⟨e,he⟩:∃ e:Kd,e=(k1,c1):=⟨_,rfl⟩
  rw [← he] at hn
  have hel:e.1.length≤1000:=by rw [he];have:=ht.2;dsimp only;omega
  haveI:∀ p g m:Nat,OC Tryz.prog 107 [.o (.ptr p g 0),.p (.i 20)] [(p,(m,some (rfM b q)))] [] (m=g+1) (.p (.sl 1 (e.1.map bR) false)) [(p,(m,some (rfM b q1)))]:=fun p g m=>⟨fun h=>by obtain rfl:=h;have:=(rftext_o g b q 20 (by decide) (by decide) oq).one p;rw [h1] at this;rw [he];exact this⟩
  haveI:∀ p g m:Nat,OC Tryz.prog 147 [.o (.ptr p g 0)] [(p,(m,some (rfM b q1)))] [] (m=g+1) (cV e.2.1 e.2.2 false) [(p,(m,some (rfM b q2)))]:=fun p g m=>⟨fun h=>by obtain rfl:=h;have:=(rftake_o g b q1 oq1).one p;rw [h3] at this;rw [he];exact this⟩
  clear he h1 h3 ht oq oq1
  repeat' (first|refine jx5 ?_|refine jy0 ?_ ?_|exact spF|refine spQ fun hq hq'=>?_|refine spN fun hn=>?_|fail)
  refine rn_sto (gd_n rfl rfl) rfl (lop_st_t9 (ds:=cL e.2.1 e.2.2 false) rfl inferInstance rfl rfl rfl rfl rfl rfl rfl rfl) ?_
  as_aux_lemma=>
   repeat' (first|refine jx5 ?_|refine jy0 ?_ ?_|exact spF|refine spQ fun hq hq'=>?_|refine spN fun hn=>?_|fail)
   exact ⟨(i+1,g+1,L++[e],q2,_),_,by dsimp only;omega,⟨by dsimp only;omega,hn⟩,.refl,by exact frA⟩
 ·have hm:manyS kdS k r2=(L,q):=by
   by_cases h:i < k
   ·have hq:q.2≠0:=fun hq=>hik ⟨h,hq⟩
    have:=many_bad (P:=kdS) r2 (k:=i) (by rw [hL];exact hq) (k - i)
    rw [show i+(k - i)=k by omega] at this
    rw [this,hL]
   ·rw [show k=i by omega,hL]
  have hex:decide ((i:Int) < (k:Int))=false∨(decide ((i:Int) < (k:Int))=true∧decide (q.2=0)=false):=by
   by_cases h:i < k
   ·exact .inr ⟨decide_eq_true (by omega),decide_eq_false fun hq=>hik ⟨h,hq⟩⟩
   ·exact .inl (decide_eq_false (by omega))
  have hall:=many_all par_kd (Q:=fun e=>KdI e∧e.2.2.length≤400) kd_fit r2 o2' k
  rw [hm] at hall ⊢
  dsimp only at hall ⊢
  haveI hR:PC Tryz.prog 148 [.p (.sl 10 (L.map kR) false)] True (.p (.b (keysF L))):=⟨fun _=>refRight10_w L false (by omega) (fun e he=>(hall e he).1) (fun e he=>by have:=(hall e he).2;omega)⟩
  clear hm hL hik hall o2'
  refine aws_says (says_frz (t:=6) (o:=901) rfl rfl rfl (by rw [List.length_map])) ?_
  generalize keysF L=B at hR ⊢
  by_cases hz:endS q=0
  ·have d4:decide (endS q≠0)=false:=decide_eq_false fun h=>h hz
   cases B with
   | true=>
    have d5:(!true)=false:=rfl
    rw [if_neg (show ¬ (endS q≠0∨true=false) from fun h=>h.elim (fun h=>h hz) (fun h=>by cases h))]
    rcases hex with d1 | ⟨d1,d2⟩
    all_goals
     as_aux_lemma=>
      repeat' (first|refine jx5 ?_|refine jy0 ?_ ?_|exact spF|refine spQ fun hq hq'=>?_|refine spN fun hn=>?_|fail)
      exact rt2 rfl rfl finS_p rfl finS_p rfl
   | false=>
    have d5:(!false)=true:=rfl
    rw [if_pos (show (endS q≠0∨false=false) from .inr rfl)]
    rcases hex with d1 | ⟨d1,d2⟩
    all_goals
     as_aux_lemma=>
      repeat' (first|refine jx5 ?_|refine jy0 ?_ ?_|exact spF|refine spQ fun hq hq'=>?_|refine spN fun hn=>?_|fail)
      exact rt2 rfl rfl (.one .nil) rfl finS_p rfl
  ·have d4:decide (endS q≠0)=true:=decide_eq_true hz
   rw [if_pos (show (endS q≠0∨B=false) from .inl hz)]
   rcases hex with d1 | ⟨d1,d2⟩
   all_goals
    as_aux_lemma=>
     repeat' (first|refine jx5 ?_|refine jy0 ?_ ?_|exact spF|refine spQ fun hq hq'=>?_|refine spN fun hn=>?_|fail)
     exact rt2 rfl rfl (.one .nil) rfl finS_p rfl
end Go.Proofs.YtcbhmngagibhmaaGreat.Wi
namespace Go.Proofs.YtcbhmngagibhmaaGreat.Wi
open Go Go.RowKit Go.Aw Go.Aw.Cart Go.Aw.Tree Go.Proofs.YtcbhmngagibhmaaGreat.Ca Go.Proofs.YtcbhmngagibhmaaGreat.Rg
set_option linter.unusedVariables false
set_option linter.unusedSimpArgs false
set_option maxRecDepth 8000
set_option maxHeartbeats 4000000
theorem lop_bsD {C:Ctx} {o:Oper} {σ:St} {T e:TypeId} {x0:Operand} {sz by_ be:Nat} {ke:TK} {z:List Value} {d:List Nat} (ho:o.op=.buildSlice T 1 #[(0,x0)]) (hT:TI C.P T (.slice e) sz by_) (he:TI C.P e ke 32 be) (hz:TZ C.P e z) (h0:σ.look x0=.a (d.map bcD)) (hdl:d.length=32) (hd:dOk C o.dst=true) :
  LOp C o σ ⟨.p (.sl 32 [dRw d] true),[]⟩ (fun _=>false):=
 lop_buildSlice (ps:=[(0,dRw d)]) ho (.cons ⟨rfl,by simp [hdl],_,h0,by simp [SV.cells,List.map_map,Function.comp_def]⟩ .nil) rfl (by decide) (by decide) hd
theorem lop_ap_D {C:Ctx} {o:Oper} {σ:St} {T e:TypeId} {x y:Operand} {sz by_ es be:Nat} {ke:TK} {l:List (List Nat)} {z:List Value} {ey:Bool} {ob g n len:Nat} {v:List Nat} (ho:o.op=.call ⟨.builtin .append,#[x,y],#[T,T]⟩) (hT:TI C.P T (.slice e) sz by_) (he:TI C.P e ke es be) (hz:TZ C.P e z) (hx:σ.look x=.o (.osl ob g es 0 len)) (hm:σ.mem ob=(n,some (.buf e es (l.map dRw)))) (hn:n=g+1) (hlr:len=l.length)
  (hy:σ.look y=.p (.sl es [dRw v] ey)) (hzl:z.length=es) (h63:l.length+1≤maxLen) (hby:(l.length+1) * be≤140737488355328) (hd:dOk C o.dst=true) :
  LOp C o σ ⟨.o (.osl ob n es 0 (l++[v]).length),[(ob,(n+1,some (.buf e es ((l++[v]).map dRw))))]⟩ (fun q=>q == ob):=lop_ap_o1 (f:=dRw) (v:=v) ho hT he hz hx hm hn hlr hy rfl hzl h63 hby hd
def lstS:RS→(List Int × List (List Nat)) × RS:=bindS (smallS 16) fun n=>bindS (allS (smallS 20) n.toNat) fun P=>bindS (smallS 16) fun k=>bindS (allS digS k.toNat) fun G=>pureS (P,G)
theorem par_lst:Par lstS:=par_bind (par_small _) fun n=>par_bind (par_all (par_small _) _) fun P=>par_bind (par_small _) fun k=>par_bind (par_all par_dig _) fun G=>par_pure _
theorem lst_at {r r1 r2 r3 r4:RS} {n k:Nat} {P:List Int} {G:List (List Nat)} (h1:smallS 16 r=((n:Int),r1)) (h2:allS (smallS 20) n r1=(P,r2)) (h3:smallS 16 r2=((k:Int),r3)) (h4:allS digS k r3=(G,r4)):lstS r=((P,G),r4):=by
 simp only [lstS,bindS,pureS,h1,Int.toNat_natCast,h2,h3,h4]
theorem all_mem {α:Type} {P:RS→α × RS} (hP:Par P) {Q:α→Prop} (h:∀ r,rdOk r→Q (P r).1) (r:RS) (hr:rdOk r):∀ k,∀ x∈(allS P k r).1,Q x
 | 0,x,hx=>by cases hx
 | k+1,x,hx=>by
  have ih:=all_mem hP h r hr k
  have hx':x∈(allS P k r).1++[(P (allS P k r).2).1]:=hx
  rcases List.mem_append.1 hx' with q|q
  ·exact ih x q
  ·rw [List.mem_singleton] at q
   rw [q];exact h _ ((par_all hP k).rd hr)
theorem lst_fit (r:RS) (hr:rdOk r):(lstS r).1.1.length≤16∧(lstS r).1.2.length≤16∧∀ d∈(lstS r).1.2,d.length=32∧okB d:=by
 obtain ⟨n,hn⟩:=small_nat 16 r
 obtain ⟨r1,h1⟩:∃ r1,(smallS 16 r).2=r1:=⟨_,rfl⟩
 have e1:smallS 16 r=((n:Int),r1):=Prod.ext hn h1
 have o1:rdOk r1:=by rw [← h1];exact (par_small 16).rd hr
 obtain ⟨P,r2,e2⟩:=pr_ex (allS (smallS 20) n r1)
 have o2:rdOk r2:=by have:=(par_all (par_small 20) n).rd o1;rwa [e2] at this
 obtain ⟨k,hk⟩:=small_nat 16 r2
 obtain ⟨r3,h3⟩:∃ r3,(smallS 16 r2).2=r3:=⟨_,rfl⟩
 have e3:smallS 16 r2=((k:Int),r3):=Prod.ext hk h3
 have o3:rdOk r3:=by rw [← h3];exact (par_small 16).rd o2
 obtain ⟨G,r4,e4⟩:=pr_ex (allS digS k r3)
 rw [lst_at e1 e2 e3 e4]
 have k1:=small_le (most:=16) (by decide) r
 have k2:=small_le (most:=16) (by decide) r2
 have k3:=all_len (smallS 20) n r1
 have k4:=all_len digS k r3
 have k5:=all_mem par_dig (Q:=fun d=>d.length=32∧okB d) (fun q hq=>⟨dig_len q,dig_ok q hq⟩) r3 o3 k
 rw [e2] at k3
 rw [e4] at k4 k5
 dsimp only at k3 k4 k5 ⊢
 exact ⟨by omega,by omega,k5⟩
namespace T8
theorem lopC {C:Ctx} {o:Oper} {σ:St} {e:Eff} {ro:Nat→Bool} (h:LOp C o σ e ro:=by
  first|(apply lop_bsD;(focus rfl);(focus exact inferInstance);(focus exact inferInstance);(focus exact inferInstance);(focus rfl);(focus assumption);(focus rfl))|(apply lop_ap_D;(focus rfl);(focus exact inferInstance);(focus exact inferInstance);(focus exact inferInstance);(focus rfl);(focus rfl);(focus rfl);(focus rfl);(focus rfl);(focus rfl);(focus first|(simp only [maxLen,List.length_append,List.length_cons,List.length_nil,List.length_take,List.length_drop,List.length_map];omega)|omega);(focus first|(simp only [maxLen,List.length_append,List.length_cons,List.length_nil,List.length_take,List.length_drop,List.length_map];omega)|omega);(focus rfl))|exact T4.lopC|fail):LOp C o σ e ro:=h
section steps
variable {C:Ctx} {ops:Array Oper} {o:Oper} {rest:List Oper} {K:St→Prop} {σ:St} {e:Eff} {ro:Nat→Bool} {W:List (Nat × Nat)} {i:Nat}
theorem rnC {d:Nat} (hg:Guard ops σ o true:=by first|exact gd_n rfl rfl|exact gd_t rfl rfl rfl rfl|exact gd_t rfl rfl rfl (by assumption)) (hd:o.dst=some d:=by rfl) (h:LOp C o σ e ro:=by exact lopC) (hk:RunN C ops rest K (e.app (some d) σ)):RunN C ops (o::rest) K σ:=rn_any hg hd h hk
theorem rkC {d:Nat} (hg:Guard ops σ o true:=by first|exact gd_n rfl rfl|exact gd_t rfl rfl rfl rfl|exact gd_t rfl rfl rfl (by assumption)) (hd':o.dst=some d:=by rfl) (hd:dOk C o.dst=true:=by rfl) (h:LOp C o σ e ro:=by exact lopC) (hro:∀ x,ro x=true→okObj ops W i x=true:=by first|exact fun _=>ro_none|exact ro_one rfl|exact ro_k1 rfl|exact ro_one (by kernel_rfl)|exact ro_k1 (by kernel_rfl)|exact ro_kIn (by decide)) (hob:∀ p∈e.obj,(i,p.1)∈W:=by first|exact ob_none|exact ob_one (by decide)|decide) (hk:RunK C ops W (i+1) rest K (e.app (some d) σ)):RunK C ops W i (o::rest) K σ:=rk_wr hg hd' hd h hro hob hk
end steps
end T8
open T8
attribute [local irreducible] smallS digS
theorem lists_o (n nd:Nat) (r:RS) (hr:rdOk r) (k f t s p z:PVal) (d:List Nat) (hd:d.length=32):OCall Tryz.prog 68 [.o (.ptr 1000 n 0),.o (.ptr 1001 nd 0)] (memL [(1000,(n+1,some (rdM r))),(1001,(nd+1,some (.box 28 (.p k::.p f::.p t::.p s::.p p::(d.map bcD++[.p (.v (.slice none 0 0)),.p (.v (.slice none 0 0)),.p z])))))]) (.tup [])
  (memL [(1000,(n+1,some (rdM (lstS r).2))),(1001,(nd+1,some (.box 28 (.p k::.p f::.p t::.p s::.p p::(d.map bcD++[.p (.sl 1 ((lstS r).1.1.map iRw) false),.p (.sl 32 ((lstS r).1.2.map dRw) false),.p z])))))]):=by
 refine ocall_of22 Tryz.func68 rfl (fun w0 F S0 M0=>?_)
 have h32:(d.map bcD).length=32:=by rw [List.length_map];exact hd
 obtain ⟨a,ha⟩:=small_nat 16 r
 obtain ⟨r1,h1⟩:∃ r1,(smallS 16 r).2=r1:=⟨_,rfl⟩
 have e1:smallS 16 r=((a:Int),r1):=Prod.ext ha h1
 have a16:=small_le (most:=16) (by decide) r
 have o1:rdOk r1:=by rw [← h1];exact (par_small 16).rd hr
 obtain ⟨P,r2,e2⟩:=pr_ex (allS (smallS 20) a r1)
 have o2:rdOk r2:=by have:=(par_all (par_small 20) a).rd o1;rwa [e2] at this
 obtain ⟨b,hb⟩:=small_nat 16 r2
 obtain ⟨r3,h3⟩:∃ r3,(smallS 16 r2).2=r3:=⟨_,rfl⟩
 have e3:smallS 16 r2=((b:Int),r3):=Prod.ext hb h3
 have b16:=small_le (most:=16) (by decide) r2
 have o3:rdOk r3:=by rw [← h3];exact (par_small 16).rd o2
 obtain ⟨G,r4,e4⟩:=pr_ex (allS digS b r3)
 rw [lst_at e1 e2 e3 e4]
 dsimp only
 rw [ha] at a16
 rw [hb] at b16
 have i1:∀ q g m:Nat,OC Tryz.prog 66 [.o (.ptr q g 0),.p (.i 16)] [(q,(m,some (rdM r)))] [] (m=g+1) (.p (.i (a:Int))) [(q,(m,some (rdM r1)))]:=fun q g m=>⟨fun h=>by obtain rfl:=h;have:=(small_o g r 16 (by decide) hr.1 hr.2).one q;rwa [e1] at this⟩
 have i2:∀ q g m:Nat,OC Tryz.prog 66 [.o (.ptr q g 0),.p (.i 16)] [(q,(m,some (rdM r2)))] [] (m=g+1) (.p (.i (b:Int))) [(q,(m,some (rdM r3)))]:=fun q g m=>⟨fun h=>by obtain rfl:=h;have:=(small_o g r2 16 (by decide) o2.1 o2.2).one q;rwa [e3] at this⟩
 clear ha h1 e1 hb h3 e3
 repeat' (first|refine jx14 ?_|refine jy0 ?_ ?_|exact spF|refine spQ fun hq hq'=>?_|refine spN fun hn=>?_|fail)
 refine aws_says (says_nil_at (p:=1001) (k:=0+37) (o:=901) (ty:=3) (es:=1) rfl (mc37 h32) (ms37 h32) rfl (by decide) (by decide)) ?_
 refine aws_loopS [6,7,8,9,10,11,12,13,14,15,16,17,18,19] [1000,1001,901] (fun (x:Nat × List Int × RS)=>[(6,.p (.i x.1))]) (fun x=>[(1000,(n+1,some (rdM x.2.2))),(1001,(nd+1,some (.box 28 (.p k::.p f::.p t::.p s::.p p::(d.map bcD++[.osl 901 x.1 1 0 x.2.1.length,.p (.v (.slice none 0 0)),.p z]))))),(901,(x.1+1,some (.buf 3 1 (x.2.1.map iRw))))])
  (fun x=>x.1≤a∧allS (smallS 20) x.1 r1=(x.2.1,x.2.2)) (fun x=>a - x.1) (0,[],r1) ⟨Nat.zero_le _,rfl⟩ (by exact knA) (by exact knA) ?_
 rintro ⟨i,L,q⟩ β γ ⟨hi,hL⟩
 dsimp only at hi hL ⊢
 have hll:L.length≤16:=by have:=all_len (smallS 20) i r1;rw [hL] at this;dsimp only at this;omega
 have oq:rdOk q:=by have:=(par_all (par_small 20) i).rd o1;rwa [hL] at this
 by_cases hia:i < a
 ·have d1:decide ((i:Int) < (a:Int))=true:=decide_eq_true (by omega)
  obtain ⟨x,q1,ex⟩:=pr_ex (smallS 20 q)
  have hn:allS (smallS 20) (i+1) r1=(L++[x],q1):=by
   show bindS (allS (smallS 20) i) _ r1=_
   simp only [bindS,pureS,hL,ex]
  haveI i3:∀ q' g m:Nat,OC Tryz.prog 66 [.o (.ptr q' g 0),.p (.i 20)] [(q',(m,some (rdM q)))] [] (m=g+1) (.p (.i x)) [(q',(m,some (rdM q1)))]:=fun q' g m=>⟨fun h=>by obtain rfl:=h;have:=(small_o g q 20 (by decide) oq.1 oq.2).one q';rwa [ex] at this⟩
  clear ex oq hL i1 i2
  repeat' (first|refine jx14 ?_|refine jy0 ?_ ?_|exact spF|refine spQ fun hq hq'=>?_|refine spN fun hn=>?_|fail)
  refine aws_draws [(6,1000),(8,901),(11,1001)] mixed (by kernel_rfl) ?_
  repeat' (first|refine jx15 ?_|refine jy1 ?_ ?_|exact spF|refine spQ fun hq hq'=>?_|fail)
  as_aux_lemma=>
   repeat' (first|refine jx14 ?_|refine jy0 ?_ ?_|exact spF|refine spQ fun hq hq'=>?_|refine spN fun hn=>?_|fail)
   exact ⟨(i+1,L++[x],q1),_,by dsimp only;omega,⟨by dsimp only;omega,hn⟩,.refl,by exact frA⟩
 have d1:decide ((i:Int) < (a:Int))=false:=decide_eq_false (by omega)
 obtain rfl:i=a:=by omega
 rw [e2] at hL
 obtain ⟨rfl,rfl⟩:=Prod.mk.inj hL
 clear hL
 refine aws_says (says_frz_at (p:=1001) (k:=0+37) (o:=901) rfl (mc37 h32) (ms37 h32) rfl rfl (by rw [List.length_map]) (by decide)) ?_
 repeat' (first|refine jx14 ?_|refine jy0 ?_ ?_|exact spF|refine spQ fun hq hq'=>?_|refine spN fun hn=>?_|fail)
 refine aws_says (says_nil_at (p:=1001) (k:=0+38) (o:=902) (ty:=23) (es:=32) rfl (mc38 h32) (ms38 h32) rfl (by decide) (by decide)) ?_
 refine aws_loopS [22,23,24,25,26,27,28,29,30,31,32,33,34,35] [1000,1001,902] (fun (x:Nat × List (List Nat) × RS)=>[(22,.p (.i x.1))]) (fun x=>[(1000,(n+1,some (rdM x.2.2))),(1001,(nd+1,some (.box 28 (.p k::.p f::.p t::.p s::.p p::(d.map bcD++[.p (.sl 1 (P.map iRw) false),.osl 902 x.1 32 0 x.2.1.length,.p z]))))),(902,(x.1+1,some (.buf 23 32 (x.2.1.map dRw))))])
  (fun x=>x.1≤b∧allS digS x.1 r3=(x.2.1,x.2.2)) (fun x=>b - x.1) (0,[],r3) ⟨Nat.zero_le _,rfl⟩ (by exact knA) (by exact knA) ?_
 rintro ⟨j,M,q⟩ β γ ⟨hj,hM⟩
 dsimp only at hj hM ⊢
 have hml:M.length≤16:=by have:=all_len digS j r3;rw [hM] at this;dsimp only at this;omega
 by_cases hjb:j < b
 ·have d2:decide ((j:Int) < (b:Int))=true:=decide_eq_true (by omega)
  have hx32:=dig_len q
  obtain ⟨x,q1,ex⟩:=pr_ex (digS q)
  rw [ex] at hx32
  dsimp only at hx32
  have hn:allS digS (j+1) r3=(M++[x],q1):=by
   show bindS (allS digS j) _ r3=_
   simp only [bindS,pureS,hM,ex]
  haveI i3:∀ q' g m:Nat,OC Tryz.prog 67 [.o (.ptr q' g 0)] [(q',(m,some (rdM q)))] [] (m=g+1) (dgV x) [(q',(m,some (rdM q1)))]:=fun q' g m=>⟨fun h=>by obtain rfl:=h;have:=(rdig_o g q).one q';rw [ren_dgV,ex] at this;exact this⟩
  clear ex hM i1 i2
  repeat' (first|refine jx14 ?_|refine jy0 ?_ ?_|exact spF|refine spQ fun hq hq'=>?_|refine spN fun hn=>?_|fail)
  refine aws_draws [(6,1000),(8,902),(11,1001)] mixed (by kernel_rfl) ?_
  repeat' (first|refine jx15 ?_|refine jy1 ?_ ?_|exact spF|refine spQ fun hq hq'=>?_|fail)
  as_aux_lemma=>
   repeat' (first|refine jx14 ?_|refine jy0 ?_ ?_|exact spF|refine spQ fun hq hq'=>?_|refine spN fun hn=>?_|fail)
   exact ⟨(j+1,M++[x],q1),_,by dsimp only;omega,⟨by dsimp only;omega,hn⟩,.refl,by exact frA⟩
 have d2:decide ((j:Int) < (b:Int))=false:=decide_eq_false (by omega)
 obtain rfl:j=b:=by omega
 rw [e4] at hM
 obtain ⟨rfl,rfl⟩:=Prod.mk.inj hM
 clear hM
 refine aws_says (says_frz_at (p:=1001) (k:=0+38) (o:=902) rfl (mc38 h32) (ms38 h32) rfl rfl (by rw [List.length_map]) (by decide)) ?_
 as_aux_lemma=>
  repeat' (first|refine jx14 ?_|refine jy0 ?_ ?_|exact spF|refine spQ fun hq hq'=>?_|refine spN fun hn=>?_|fail)
  exact RetO.mk (res0 rfl rfl) ⟨.box finL_p,.box (finM .p .p .p),trivial⟩
end Go.Proofs.YtcbhmngagibhmaaGreat.Wi
