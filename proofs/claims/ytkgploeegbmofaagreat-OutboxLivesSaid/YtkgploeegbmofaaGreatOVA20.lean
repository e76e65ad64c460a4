/- packs: a list read -/
import Derived.Test.YtkgploeegbmofaaGreatOVA18
namespace Go.Proofs.YtkgploeegbmofaaGreat.Wi
open Go Go.RowKit Go.Aw Go.Aw.Cart Go.Proofs.YtkgploeegbmofaaGreat.Ca
set_option linter.unusedVariables false
set_option linter.unusedSimpArgs false
set_option maxRecDepth 8000
set_option maxHeartbeats 4000000
open WA
theorem allZ_fit (r:RS) (h:rdOk r):∀ k,∀ x∈(allS numZ k r).1,0≤x∧x < 18446744073709551616
 | 0,x,hx=>by cases hx
 | k+1,x,hx=>by
  have ih:=allZ_fit r h k
  have hr:=(par_all par_numZ k).rd h
  have hx':x∈(allS numZ k r).1++[((numS (allS numZ k r).2).1:Int)]:=hx
  rcases List.mem_append.1 hx' with q|q
  ·exact ih x q
  ·rw [List.mem_singleton] at q
   have:=numS_fit hr.1
   rw [q];omega
theorem vec_fit (r:RS) (h:rdOk r) (z:List Int) (hz:vecOk z) (k:Nat) (hk:k=8):vecOk (bindS (allS numZ k) (fun v=>okS v z) r).1:=by
 have h1:=all_len numZ k r
 have h2:=allZ_fit r h k
 show vecOk (if (allS numZ k r).2.2=0 then (allS numZ k r).1 else z)
 split
 ·exact ⟨by rw [h1,hk],h2⟩
 ·exact hz
theorem zeroV_ok:vecOk zeroV:=⟨rfl,by decide⟩
theorem vecS_ok (r:RS) (h:rdOk r):vecOk (vecS r).1:=vec_fit r h zeroV zeroV_ok 8 rfl
theorem cart_fit (r:RS) (h:rdOk r):vecOk (cartS r).1.1∧(cartS r).1.2.length≤400:=by
 rw [cartS_eq]
 have hv:=vecS_ok r h
 have hk:=small_le (most:=400) (by decide) (vecS r).2
 have hl:=many_len entS (smallS 400 (vecS r).2).2 (smallS 400 (vecS r).2).1.toNat
 generalize (vecS r).1=V at hv ⊢
 generalize (vecS r).2=r1 at hk hl ⊢
 generalize smallS 400 r1=q at hk hl ⊢
 generalize manyS entS q.1.toNat q.2=m at hl ⊢
 show vecOk (if _ then (V,m.1) else (zeroV,[]):Crt).1∧(if _ then (V,m.1) else (zeroV,[]):Crt).2.length≤400
 split
 ·exact ⟨hv,by dsimp only;omega⟩
 ·exact ⟨zeroV_ok,by simp⟩
theorem text_fit {most:Int} (hm:0≤most) (r:RS) (h:rdOk r):okB (textS most r).1∧((textS most r).1.length:Int)≤most:=by
 have h1:=(par_small most).rd h
 have h2:=small_le hm r
 have h3:(takeS (smallS most r).1.toNat (smallS most r).2).1.length≤(smallS most r).1.toNat:=take_len.1
 obtain ⟨k,hk⟩:=small_nat most r
 refine ⟨(take_byte (n:=(smallS most r).1.toNat) h1.1).1,?_⟩
 show ((takeS (smallS most r).1.toNat (smallS most r).2).1.length:Int)≤most
 omega
theorem kd_fit (r:RS) (h:rdOk r):KdI (kdS r).1∧(kdS r).1.2.2.length≤400:=by
 have h1:=text_fit (most:=20) (by decide) r h
 have h2:=cart_fit (textS 20 r).2 ((par_text 20).rd h)
 have e:(kdS r).1=((textS 20 r).1,(cartS (textS 20 r).2).1):=rfl
 rw [e]
 exact ⟨⟨h1.1,by have:=h1.2;dsimp only;omega,h2.1,by have:=h2.2;dsimp only;omega⟩,h2.2⟩
theorem many_all {α:Type} {P:RS→α × RS} (hP:Par P) {Q:α→Prop} (h:∀ r,rdOk r→Q (P r).1) (r:RS) (hr:rdOk r):∀ k,∀ x∈(manyS P k r).1,Q x
 | 0,x,hx=>by cases hx
 | k+1,x,hx=>by
  have ih:=many_all hP h r hr k
  rw [manyS] at hx
  split at hx
  ·rcases List.mem_append.1 hx with q|q
   ·exact ih x q
   ·rw [List.mem_singleton] at q
    rw [q];exact h _ ((par_many hP k).rd hr)
  ·exact ih x hx
theorem listS_eq (r:RS):listS r=manyS kdS (smallS 2000 r).1.toNat (smallS 2000 r).2:=by
 simp only [listS,bindS]
theorem kdS_eq (r:RS):kdS r=(((textS 20 r).1,(cartS (textS 20 r).2).1),(cartS (textS 20 r).2).2):=by
 simp only [kdS,bindS,pureS]
attribute [local irreducible] vecS smallS entS cartS textS kdS
theorem readAll_w (b:List Nat) (ex:Bool) (hb:okB b) (hbl:b.length≤1000000000):PCall Tryz.prog 95 [.p (.sl 1 (b.map bR) ex)] (.tup [.one (.p (.sl 10 ((readL b).1.map kR) false)),.one (.p (.i (readL b).2))]):=by
 refine pcall_of Tryz.func95 rfl (fun w0 F S0 M0=>?_)
 have o1:rdOk (b,0):=⟨hb,hbl⟩
 unfold readL
 rw [listS_eq]
 obtain ⟨k,hk⟩:=small_nat 2000 (b,0)
 have hk2:(k:Int)≤2000:=by rw [← hk];exact small_le (by decide) _
 obtain ⟨r2,h2⟩:∃ r2,(smallS 2000 (b,0)).2=r2:=⟨_,rfl⟩
 have o2:rdOk r2:=by have:=(par_small 2000).rd o1;rwa [h2] at this
 haveI:∀ p g m:Nat,OC Tryz.prog 92 [.o (.ptr p g 0),.p (.i 2000)] [(p,(m,some (rdM (b,0))))] [] (m=g+1) (.p (.i (k:Int))) [(p,(m,some (rdM r2)))]:=fun p g m=>⟨fun h=>by obtain rfl:=h;have:=(small_o g (b,0) 2000 (by decide) o1.1 o1.2).one p;rwa [hk,h2] at this⟩
 rw [hk,h2,Int.toNat_natCast]
 clear hk h2
 repeat' (first|refine jx5 ?_|refine jy0 ?_ ?_|exact spF|refine spQ fun hq hq'=>?_|refine spN fun hn=>?_|fail)
 refine aws_says (says_nil (t:=5) (o:=901) (ty:=123) (es:=10) rfl rfl (by decide)) ?_
 refine aws_loopS [5,10,11,12,13,14,15,16,17,18,19,20,21,22,23,24] [7,901] (fun (x:Nat × Nat × List Kd × RS)=>[(10,.p (.i x.1)),(5,.o (.osl 901 x.2.1 10 0 x.2.2.1.length))]) (fun x=>[(7,(1,some (rdM x.2.2.2))),(901,(x.2.1+1,some (.buf 123 10 (x.2.2.1.map kR))))])
  (fun x=>x.1≤k∧manyS kdS x.1 r2=(x.2.2.1,x.2.2.2)) (fun x=>k - x.1) (0,0,[],r2) ⟨Nat.zero_le _,rfl⟩ (by exact knA) (by exact knA) ?_
 rintro ⟨i,g,L,q⟩ β γ ⟨hi,hL⟩
 dsimp only at hi hL ⊢
 have hll:L.length≤2000:=by have:=many_len kdS r2 i;rw [hL] at this;dsimp only at this;omega
 have oq:rdOk q:=by have:=(par_many par_kd i).rd o2;rwa [hL] at this
 by_cases hik:i < k∧q.2=0
 ·obtain ⟨hik,hq⟩:=hik
  have d1:decide ((i:Int) < (k:Int))=true:=decide_eq_true (by omega)
  have d2:decide (q.2≠0)=false:=decide_eq_false fun h=>h hq
  have hn:manyS kdS (i+1) r2=(L++[(kdS q).1],(kdS q).2):=by rw [manyS,hL,if_pos hq]
  rw [kdS_eq] at hn
  have ht:=text_fit (most:=20) (by decide) q oq
  obtain ⟨k1,q1,h1⟩:=pr_ex (textS 20 q)
  have oq1:rdOk q1:=by have:=(par_text 20).rd oq;rwa [h1] at this
  obtain ⟨c1,q2,h3⟩:=pr_ex (cartS q1)
  rw [h1] at hn ht
  dsimp only at hn ht
  rw [h3] at hn
  dsimp only at hn
  obtain ⟨e,he⟩:∃ e:Kd,e=(k1,c1):=⟨_,rfl⟩
  rw [← he] at hn
  have hel:e.1.length≤1000:=by rw [he];have:=ht.2;dsimp only;omega
  haveI:∀ p g m:Nat,OC Tryz.prog 135 [.o (.ptr p g 0),.p (.i 20)] [(p,(m,some (rdM q)))] [] (m=g+1) (.p (.sl 1 (e.1.map bR) false)) [(p,(m,some (rdM q1)))]:=fun p g m=>⟨fun h=>by obtain rfl:=h;have:=(rtext_o g q 20 (by decide) oq).one p;rw [h1] at this;rw [he];exact this⟩
  haveI:∀ p g m:Nat,OC Tryz.prog 136 [.o (.ptr p g 0)] [(p,(m,some (rdM q1)))] [] (m=g+1) (cV e.2.1 e.2.2 false) [(p,(m,some (rdM q2)))]:=fun p g m=>⟨fun h=>by obtain rfl:=h;have:=(ptake_o g q1 oq1).one p;rw [h3] at this;rw [he];exact this⟩
  clear he h1 h3 ht
  repeat' (first|refine jx5 ?_|refine jy0 ?_ ?_|exact spF|refine spQ fun hq hq'=>?_|refine spN fun hn=>?_|fail)
  refine aws_draws [(2,7),(5,7),(8,901)] mixed (by kernel_rfl) ?_
  repeat' (first|refine jx7 ?_|refine jy1 ?_ ?_|exact spF|refine spQ fun hq hq'=>?_|fail)
  as_aux_lemma=>
   repeat' (first|refine jx5 ?_|refine jy0 ?_ ?_|exact spF|refine spQ fun hq hq'=>?_|refine spN fun hn=>?_|fail)
   exact ⟨(i+1,g+1,L++[e],q2),_,by dsimp only;omega,⟨by dsimp only;omega,hn⟩,.refl,by exact frA⟩
 ·have hm:manyS kdS k r2=(L,q):=by
   by_cases h:i < k
   ·have hq:q.2≠0:=fun hq=>hik ⟨h,hq⟩
    have:=many_bad (P:=kdS) r2 (k:=i) (by rw [hL];exact hq) (k - i)
    rw [show i+(k - i)=k by omega] at this
    rw [this,hL]
   ·rw [show k=i by omega,hL]
  have hex:decide ((i:Int) < (k:Int))=false∨(decide ((i:Int) < (k:Int))=true∧decide (q.2≠0)=true):=by
   by_cases h:i < k
   ·exact .inr ⟨decide_eq_true (by omega),decide_eq_true fun hq=>hik ⟨h,hq⟩⟩
   ·exact .inl (decide_eq_false (by omega))
  have hall:=many_all par_kd (Q:=fun e=>KdI e∧e.2.2.length≤400) kd_fit r2 o2 k
  rw [hm] at hall ⊢
  dsimp only at hall ⊢
  haveI hR:PC Tryz.prog 28 [.p (.sl 10 (L.map kR) false)] True (.p (.b (keysF L))):=⟨fun _=>pright_w L false (by omega) (fun e he=>(hall e he).1) (fun e he=>by have:=(hall e he).2;omega)⟩
  clear hm hL hik hall
  refine aws_says (says_frz (t:=5) (o:=901) rfl rfl rfl (by rw [List.length_map])) ?_
  generalize keysF L=B at hR ⊢
  by_cases hz:endS q=0
  ·have d4:decide (endS q≠0)=false:=decide_eq_false fun h=>h hz
   cases B with
   | true=>
    have d5:(!true)=false:=rfl
    rw [if_neg (show ¬ (endS q≠0∨true=false) from fun h=>h.elim (fun h=>h hz) (fun h=>by cases h))]
    rcases hex with d1 | ⟨d1,d2⟩
    all_goals
     as_aux_lemma=>
      repeat' (first|refine jx5 ?_|refine jy0 ?_ ?_|exact spF|refine spQ fun hq hq'=>?_|refine spN fun hn=>?_|fail)
      exact rt2 rfl rfl finS_p rfl finS_p rfl
   | false=>
    have d5:(!false)=true:=rfl
    rw [if_pos (show (endS q≠0∨false=false) from .inr rfl)]
    rcases hex with d1 | ⟨d1,d2⟩
    all_goals
     as_aux_lemma=>
      repeat' (first|refine jx5 ?_|refine jy0 ?_ ?_|exact spF|refine spQ fun hq hq'=>?_|refine spN fun hn=>?_|fail)
      exact rt2 rfl rfl (.one .nil) rfl finS_p rfl
  ·have d4:decide (endS q≠0)=true:=decide_eq_true hz
   rw [if_pos (show (endS q≠0∨B=false) from .inl hz)]
   rcases hex with d1 | ⟨d1,d2⟩
   all_goals
    as_aux_lemma=>
     repeat' (first|refine jx5 ?_|refine jy0 ?_ ?_|exact spF|refine spQ fun hq hq'=>?_|refine spN fun hn=>?_|fail)
     exact rt2 rfl rfl (.one .nil) rfl finS_p rfl
end Go.Proofs.YtkgploeegbmofaaGreat.Wi
