/- packs: a cart's bytes, written -/
import Derived.Test.YtpgppgehhclfoaaGreatOBB48
import Derived.Test.YtpgppgehhclfoaaGreatOBB88
import Derived.Laws.Cover1
namespace Go.Proofs.YtpgppgehhclfoaaGreat.Wi
open Go Go.RowKit Go.Aw Go.Aw.Cart Go.Proofs.YtpgppgehhclfoaaGreat.Ca
set_option linter.unusedVariables false
set_option linter.unusedSimpArgs false
set_option maxRecDepth 8000
set_option maxHeartbeats 4000000
theorem says_wr0 {C:Ctx} {σ:St} {p np ty tyB es:Nat} (hp:σ.mem p=(np,some (.box ty [.p (.v (.slice none 0 0))]))) (hes:0 < es):Says C σ (σ.put p (np,some (.abs (pkA ty [] [] tyB es [])))):=by
 rintro a w ⟨G,h⟩
 obtain ⟨g,m,hg,hmm,b,arr,h1,h2,h3,h4⟩:=h.mem p _ _ hp
 have hlen:(G.μ p).length=np:=by have:=h.gens p;rw [hp] at this;exact this
 refine ⟨_,h.upd (o:=p) (n':=np) (mo':=some (.abs (pkA ty [] [] tyB es []))) (μo:=G.μ p) (fp':=G.φ p) (w':=w) (fun g x hx=>hx) hlen rfl .same rfl (Nat.le_refl _) (fun _ _ _=>rfl) (fun b hb=>⟨.inl hb,(h.own p b hb).2⟩) (fun mo1 hmo=>?_)⟩
 obtain rfl:=Option.some.inj hmo
 obtain ⟨x,l,rfl,k1,k2⟩:=h4.cons_inv
 obtain rfl:=k2.nil_inv
 obtain ⟨rfl,_⟩:=k1
 exact ⟨g,m,hg,hmm,b,h1,none,0,[],[],[],h3,h2,by simp,.nil,.nil,hes,by simp [maxLen],Nat.le_refl _,.inl ⟨rfl,rfl,rfl⟩⟩
theorem says_wr {C:Ctx} {σ:St} {p np:Nat} (hp:σ.mem p=(np,some (.box 118 [.p (.v (.slice none 0 0))]))):Says C σ (σ.put p (np,some (.abs (wrA [])))):=says_wr0 hp (by decide)
abbrev v8L (v:List Int):List AC:=[.p (.k .u64 (v.getD 0 default)),.p (.k .u64 (v.getD 1 default)),.p (.k .u64 (v.getD 2 default)),.p (.k .u64 (v.getD 3 default)),.p (.k .u64 (v.getD 4 default)),.p (.k .u64 (v.getD 5 default)),.p (.k .u64 (v.getD 6 default)),.p (.k .u64 (v.getD 7 default))]
theorem vV8 {v:List Int} (h:v.length=8):vV v=.a (v8L v):=by
 show AV.a (v.map _)=_
 conv=>lhs;rw [v8_eq h]
 rfl
namespace W7
theorem lopC {C:Ctx} {o:Oper} {σ:St} {e:Eff} {ro:Nat→Bool} (h:LOp C o σ e ro:=by
  first
   | exact lopV
   | exact W6.lopC
   | (apply lop_call1;(focus rfl);(focus exact inferInstance);(focus exact lk_cart rfl);(focus exact inferInstance);(focus exact inferInstance);(focus first|exact True.intro|assumption|rfl|omega|((repeat' (first|assumption|refine And.intro ?_ ?_|omega|rfl));done)|fail);(focus rfl))
      | (apply lop_call2;(focus rfl);(focus exact inferInstance);(focus exact lk_cart rfl);(focus exact lk_cart rfl);(focus exact inferInstance);(focus exact inferInstance);(focus first|exact True.intro|assumption|rfl|omega|((repeat' (first|assumption|refine And.intro ?_ ?_|omega|rfl));done)|fail);(focus rfl))
      | (apply lop_call2;(focus rfl);(focus exact inferInstance);(focus exact lk_cart rfl);(focus first|exact lk_m1 rfl|exact lk_m2 rfl|exact lk_m3 rfl|exact lk_o rfl|exact lk_a2 rfl|exact lk_a3 rfl|exact lk_a4 rfl|exact lk_a1 rfl|exact lk_a5 rfl|exact lk_a6 rfl|exact lk_a7 rfl|exact lk_a8 rfl|exact lk_a rfl);(focus exact inferInstance);(focus exact inferInstance);(focus first|exact True.intro|assumption|rfl|omega|((repeat' (first|assumption|refine And.intro ?_ ?_|omega|rfl));done)|fail);(focus rfl))
   | fail):LOp C o σ e ro:=h
section steps
variable {C:Ctx} {ops:Array Oper} {o:Oper} {rest:List Oper} {K:St→Prop} {σ:St} {e:Eff} {ro:Nat→Bool} {W:List (Nat × Nat)} {i:Nat}
theorem rnC {d:Nat} (hg:Guard ops σ o true:=by first|exact gd_n rfl rfl|exact gd_t rfl rfl rfl rfl|exact gd_t rfl rfl rfl (by assumption)) (hd:o.dst=some d:=by rfl) (h:LOp C o σ e ro:=by exact lopC) (hk:RunN C ops rest K (e.app (some d) σ)):RunN C ops (o::rest) K σ:=rn_any hg hd h hk
theorem rkC {d:Nat} (hg:Guard ops σ o true:=by first|exact gd_n rfl rfl|exact gd_t rfl rfl rfl rfl|exact gd_t rfl rfl rfl (by assumption)) (hd':o.dst=some d:=by rfl) (hd:dOk C o.dst=true:=by rfl) (h:LOp C o σ e ro:=by exact lopC) (hro:∀ x,ro x=true→okObj ops W i x=true:=by first|exact fun _=>ro_none|exact ro_one rfl|exact ro_k1 rfl|exact ro_one (by kernel_rfl)|exact ro_k1 (by kernel_rfl)|exact ro_kIn (by decide)) (hob:∀ p∈e.obj,(i,p.1)∈W:=by first|exact ob_none|exact ob_one (by decide)|decide) (hk:RunK C ops W (i+1) rest K (e.app (some d) σ)):RunK C ops W i (o::rest) K σ:=rk_wr hg hd' hd h hro hob hk
end steps
end W7
open W7
theorem put_ok (n:Nat) (bs:List Nat) (v:List Int) (l:List Ent) (ex:Bool) (hv:vecOk v) (hr:rightF v l=true) (h:bs.length≤800000000):OCall Tryz.prog 128 [.o (.ptr 1000 n 0),cV v l ex] (memL [(1000,(n+1,some (.abs (wrA bs))))]) (.tup []) (memL [(1000,(n+1,some (.abs (wrA (bs++cartB (v,l))))))]):=by
 refine ocall_of1 Tryz.func128 rfl (fun w0 F S0 M0=>?_)
 have h8:=hv.1
 have hl:l.length≤400:=(ok_iff.1 hr).few
 have hes:=ok_ents (c:=(v,l)) hr hv
 haveI:PC Tryz.prog 142 [cV v l ex] True (.p (.b true)):=⟨fun _=>by have:=right_w v l ex h8 (by omega);rwa [hr] at this⟩
 have d1:(!true)=false:=rfl
 have hvl:(vecB v).length≤72:=by
  obtain ⟨a0,a1,a2,a3,a4,a5,a6,a7,rfl⟩:∃ a0 a1 a2 a3 a4 a5 a6 a7,v=[a0,a1,a2,a3,a4,a5,a6,a7]:=⟨_,_,_,_,_,_,_,_,v8_eq h8⟩
  have:=numI_len a0;have:=numI_len a1;have:=numI_len a2;have:=numI_len a3;have:=numI_len a4;have:=numI_len a5;have:=numI_len a6;have:=numI_len a7
  simp only [vecB,List.flatMap_cons,List.flatMap_nil,List.length_append,List.length_nil]
  omega
 haveI:∀ c g m:Nat,OC Tryz.prog 160 [.o (.ptr c g 0),.a (v8L v)] [(c,(m,some (.abs (wrA bs))))] [] (m=g+1) (.tup []) [(c,(m,some (.abs (wrA (bs++vecB v)))))]:=fun c g m=>⟨fun hm=>by
  obtain rfl:=hm
  rw [← vV8 h8]
  have:=(wvec_o g bs v h8 hv.2 (by omega)).one c
  rw [List.map_cons,List.map_cons,ren_vV] at this
  exact this⟩
 have b1:l.length < 18446744073709551616:=by omega
 have hnl:=numI_len (l.length:Int)
 rw [numI_nat] at hnl
 have hB:cartB (v,l)=vecB v++numB l.length++l.flatMap entB:=by unfold cartB;rw [List.append_assoc]
 have hB0:(bs++vecB v).length≤1000000000:=by rw [List.length_append];omega
 rw [hB,← List.append_assoc,← List.append_assoc]
 repeat' (first|refine jx5 ?_|refine jy0 ?_ ?_|exact spF|refine spQ fun hq hq'=>?_|refine spN fun hn=>?_|fail)
 have hB1:(bs++vecB v++numB l.length).length≤800000100:=by rw [List.length_append,List.length_append];omega
 generalize bs++vecB v++numB l.length=B0 at hB1 ⊢
 refine aws_loopS [5,22,23,24,25,26,27,28,29,30,31,32,33,34,35,36,37,38,39,40,41,42,43,44] [1000,5] (fun (x:Nat × List Nat × Option MO)=>[(22,.p (.i x.1))]) (fun x=>[(1000,(n+1,some (.abs (wrA x.2.1)))),(5,(x.1,x.2.2))]) (fun x=>x.1≤l.length∧x.2.1=B0++(l.take x.1).flatMap entB∧x.2.1.length≤B0.length+36 * x.1) (fun x=>l.length - x.1) (0,B0,none) ⟨Nat.zero_le _,by simp,by simp⟩ (by exact knA) (by exact knA) ?_
 rintro ⟨i,L,c5⟩ β γ ⟨hi,hL,hll⟩
 dsimp only at hi hL hll ⊢
 by_cases hil:i < l.length
 ·have d2:decide ((i:Int) < (l.length:Int))=true:=decide_eq_true (by omega)
  have ei:(i:Int).toNat=i:=Int.toNat_natCast i
  have hft:=flat_take entB hil
  rw [← ei] at hft
  obtain ⟨e,he⟩:∃ e,e=l.getD (i:Int).toNat default:=⟨_,rfl⟩
  have hek:=hes e (by rw [he,ei,getD_at hil];exact List.getElem_mem _)
  obtain ⟨k1,k2,k3,k4⟩:=hek
  have n1:=numI_len e.1
  have n2:=numI_len e.2.1
  have n3:=numI_len e.2.2.1
  have n4:=numI_len ((zig e.2.2.2:Nat):Int)
  rw [numI_nat] at n4
  have n4':(intB e.2.2.2).length≤9:=n4
  have g1:L.length≤1000000000:=by omega
  have g2:(L++numI e.1).length≤1000000000:=by rw [List.length_append];omega
  have g3:(L++numI e.1++numI e.2.1).length≤1000000000:=by rw [List.length_append,List.length_append];omega
  have g4:(L++numI e.1++numI e.2.1++numI e.2.2.1).length≤1000000000:=by rw [List.length_append,List.length_append,List.length_append];omega
  have g5:(L++numI e.1++numI e.2.1++numI e.2.2.1++intB e.2.2.2).length≤B0.length+36 * (i+1):=by rw [List.length_append,List.length_append,List.length_append,List.length_append];omega
  have hn:L++numI e.1++numI e.2.1++numI e.2.2.1++intB e.2.2.2=B0++(l.take (i+1)).flatMap entB:=by
   rw [show (i:Int).toNat=i from ei] at hft he
   rw [hft,hL,← he]
   simp only [entB,List.append_assoc]
  have w1:IntKind.u64.wrap e.1=e.1:=u64_in (by omega)
  have w2:IntKind.u64.wrap e.2.1=e.2.1:=u64_in (by omega)
  have k1':0≤e.1∧e.1 < 18446744073709551616:=by omega
  have k2':0≤e.2.1∧e.2.1 < 18446744073709551616:=by omega
  have k4' : -9223372036854775808≤e.2.2.2∧e.2.2.2≤9223372036854775807:=by omega
  clear hft hL n1 n2 n3 n4 n4' k1 k2 k4
  subst he
  as_aux_lemma=>
   repeat' (first|refine jx5 ?_|refine jy0 ?_ ?_|exact spF|refine spQ fun hq hq'=>?_|refine spN fun hn=>?_|fail)
   exact ⟨(i+1,_,_),_,by dsimp only;omega,⟨by dsimp only;omega,hn,g5⟩,.refl,by exact frA⟩
 ·have d2:decide ((i:Int) < (l.length:Int))=false:=decide_eq_false (by omega)
  rw [List.take_of_length_le (by omega)] at hL
  rw [← hL]
  as_aux_lemma=>
   repeat' (first|refine jx5 ?_|refine jy0 ?_ ?_|exact spF|refine spQ fun hq hq'=>?_|refine spN fun hn=>?_|fail)
   exact RetO.mk (res0 rfl rfl) ⟨.abs,trivial⟩
instance put_i {c g n:Nat} {bs:List Nat} {v:List Int} {l:List Ent} {ex:Bool}:OC Tryz.prog 128 [.o (.ptr c g 0),cV v l ex] [(c,(n,some (.abs (wrA bs))))] [] (n=g+1∧vecOk v∧rightF v l=true∧bs.length≤800000000) (.tup []) [(c,(n,some (.abs (wrA (bs++cartB (v,l))))))]:=⟨fun h=>by obtain ⟨rfl,h1,h2,h3⟩:=h;exact (put_ok g bs v l ex h1 h2 h3).one c⟩
end Go.Proofs.YtpgppgehhclfoaaGreat.Wi
namespace Go.Proofs.YtpgppgehhclfoaaGreat.Wi
open Go Go.RowKit Go.Aw Go.Aw.Cart Go.Proofs.YtpgppgehhclfoaaGreat.Ca
set_option linter.unusedVariables false
set_option linter.unusedSimpArgs false
set_option maxRecDepth 8000
set_option maxHeartbeats 4000000
open W7
theorem entry_o (n:Nat) (r:RS) (hr:rdOk r):OCall Tryz.prog 162 [.o (.ptr 1000 n 0)] (memL [(1000,(n+1,some (rdM r)))]) (eV (entS r).1) (memL [(1000,(n+1,some (rdM (entS r).2)))]):=by
 refine ocall_of1 Tryz.func162 rfl (fun w0 F S0 M0=>?_)
 obtain ⟨a,r1,h1⟩:∃ a r1,smallS 60 r=(a,r1):=⟨(smallS 60 r).1,(smallS 60 r).2,rfl⟩
 have o1:rdOk r1:=by have:=(par_small 60).rd hr;rwa [h1] at this
 obtain ⟨b,r2,h2⟩:∃ b r2,smallS 8 r1=(b,r2):=⟨(smallS 8 r1).1,(smallS 8 r1).2,rfl⟩
 have o2:rdOk r2:=by have:=(par_small 8).rd o1;rwa [h2] at this
 obtain ⟨c,r3,h3⟩:∃ c r3,numS r2=(c,r3):=⟨(numS r2).1,(numS r2).2,rfl⟩
 have o3:rdOk r3:=by have:=par_num.rd o2;rwa [h3] at this
 obtain ⟨d,r4,h4⟩:∃ d r4,intS r3=(d,r4):=⟨(intS r3).1,(intS r3).2,rfl⟩
 have e:entS r=((a,b,(c:Int),d),r4):=by
  simp only [entS,numZ,bindS,pureS,h1,h2,h3,h4]
 rw [e]
 haveI:∀ p g m:Nat,OC Tryz.prog 65 [.o (.ptr p g 0),.p (.i 60)] [(p,(m,some (rdM r)))] [] (m=g+1) (.p (.i a)) [(p,(m,some (rdM r1)))]:=fun p g m=>⟨fun h=>by obtain rfl:=h;have:=(small_o g r 60 (by decide) hr.1 hr.2).one p;rwa [h1] at this⟩
 haveI:∀ p g m:Nat,OC Tryz.prog 65 [.o (.ptr p g 0),.p (.i 8)] [(p,(m,some (rdM r1)))] [] (m=g+1) (.p (.i b)) [(p,(m,some (rdM r2)))]:=fun p g m=>⟨fun h=>by obtain rfl:=h;have:=(small_o g r1 8 (by decide) o1.1 o1.2).one p;rwa [h2] at this⟩
 haveI:∀ p g m:Nat,OC Tryz.prog 103 [.o (.ptr p g 0)] [(p,(m,some (rdM r2)))] [] (m=g+1) (.p (.k .u64 (c:Int))) [(p,(m,some (rdM r3)))]:=fun p g m=>⟨fun h=>by obtain rfl:=h;have:=(rnum_o g r2 o2.1 o2.2).one p;rwa [h3] at this⟩
 haveI:∀ p g m:Nat,OC Tryz.prog 150 [.o (.ptr p g 0)] [(p,(m,some (rdM r3)))] [] (m=g+1) (.p (.i d)) [(p,(m,some (rdM r4)))]:=fun p g m=>⟨fun h=>by obtain rfl:=h;have:=(rint_o g r3 o3).one p;rwa [h4] at this⟩
 clear e h1 h2 h3 h4
 as_aux_lemma=>
  repeat' (first|refine jx5 ?_|refine jy0 ?_ ?_|exact spF|refine spQ fun hq hq'=>?_|refine spN fun hn=>?_|fail)
  exact RetO.mk (oc1 rfl rfl rfl rfl rfl rfl finL_p rfl) ⟨.box finL_p,trivial⟩
end Go.Proofs.YtpgppgehhclfoaaGreat.Wi
namespace Go.Proofs.YtpgppgehhclfoaaGreat.Wi
open Go Go.RowKit Go.Aw Go.Aw.Cart Go.Proofs.YtpgppgehhclfoaaGreat.Ca
set_option linter.unusedVariables false
set_option linter.unusedSimpArgs false
set_option maxRecDepth 8000
set_option maxHeartbeats 4000000
theorem ro_k1 {ops:Array Oper} {W:List (Nat × Nat)} {i c:Nat} {m:Nat × Option MO} (h:okObj ops W i c=true):∀ x,kIn [(c,m)] x=true→okObj ops W i x=true:=fun x hx=>by
 simp only [kIn,Bool.or_false] at hx
 rw [Nat.eq_of_beq_eq_true hx];exact h
namespace W8
theorem lopC {C:Ctx} {o:Oper} {σ:St} {e:Eff} {ro:Nat→Bool} (h:LOp C o σ e ro:=by
  first|exact W7.lopC|fail):LOp C o σ e ro:=h
section steps
variable {C:Ctx} {ops:Array Oper} {o:Oper} {rest:List Oper} {K:St→Prop} {σ:St} {e:Eff} {ro:Nat→Bool} {W:List (Nat × Nat)} {i:Nat}
theorem rnC {d:Nat} (hg:Guard ops σ o true:=by first|exact gd_n rfl rfl|exact gd_t rfl rfl rfl rfl|exact gd_t rfl rfl rfl (by assumption)) (hd:o.dst=some d:=by rfl) (h:LOp C o σ e ro:=by exact lopC) (hk:RunN C ops rest K (e.app (some d) σ)):RunN C ops (o::rest) K σ:=rn_any hg hd h hk
theorem rkC {d:Nat} (hg:Guard ops σ o true:=by first|exact gd_n rfl rfl|exact gd_t rfl rfl rfl rfl|exact gd_t rfl rfl rfl (by assumption)) (hd':o.dst=some d:=by rfl) (hd:dOk C o.dst=true:=by rfl) (h:LOp C o σ e ro:=by exact lopC) (hro:∀ x,ro x=true→okObj ops W i x=true:=by first|exact fun _=>ro_none|exact ro_one rfl|exact ro_k1 rfl|exact ro_one (by kernel_rfl)|exact ro_k1 (by kernel_rfl)|exact ro_kIn (by decide)) (hob:∀ p∈e.obj,(i,p.1)∈W:=by first|exact ob_none|exact ob_one (by decide)|decide) (hk:RunK C ops W (i+1) rest K (e.app (some d) σ)):RunK C ops W i (o::rest) K σ:=rk_wr hg hd' hd h hro hob hk
end steps
end W8
open W8
theorem many_bad {α:Type} {P:RS→α × RS} (r:RS) {k:Nat} (h:(manyS P k r).2.2≠0):∀ j,manyS P (k+j) r=manyS P k r
 | 0=>rfl
 | j+1=>by
  have ih:=many_bad r h j
  rw [← Nat.add_assoc,manyS,ih,if_neg h]
theorem cartS_eq (r:RS):cartS r=okS ((vecS r).1,(manyS entS (smallS 400 (vecS r).2).1.toNat (smallS 400 (vecS r).2).2).1) (zeroV,[]) (mustS (rightF (vecS r).1 (manyS entS (smallS 400 (vecS r).2).1.toNat (smallS 400 (vecS r).2).2).1) (manyS entS (smallS 400 (vecS r).2).1.toNat (smallS 400 (vecS r).2).2).2):=by
 simp only [cartS,bindS,mustU]
theorem fin9 {σ:St} {K:Nat→Bool} {p0 p1 p2 p3 p4 p5 p6 p7:PVal}:All2 (FinC σ K) [.p p0,.p p1,.p p2,.p p3,.p p4,.p p5,.p p6,.p p7,.p (.v (.slice none 0 0))] [.p p0,.p p1,.p p2,.p p3,.p p4,.p p5,.p p6,.p p7,.p (.sl 4 (([]:List Ent).map eR) false)]:=
 .cons .p (.cons .p (.cons .p (.cons .p (.cons .p (.cons .p (.cons .p (.cons .p (.cons .nil .nil))))))))
theorem pr_ex {α β:Type} (p:α × β):∃ a b,p=(a,b):=⟨p.1,p.2,rfl⟩
theorem all_ok_len (r:RS) (z:List Int) (k:Nat) (hz:z.length=k):(bindS (allS numZ k) (fun v=>okS v z) r).1.length=k:=by
 show (if (allS numZ k r).2.2=0 then (allS numZ k r).1 else z).length=k
 split
 ·exact all_len _ _ _
 ·exact hz
theorem vec_len8 (r:RS):(vecS r).1.length=8:=all_ok_len r zeroV 8 rfl
theorem small_le {most:Int} (h:0≤most) (r:RS):(smallS most r).1≤most:=by
 unfold smallS
 dsimp only
 split
 ·rename_i hz
  unfold mustS at hz
  by_cases k:(decide (0≤most)&&decide (((numS r).1:Int)≤most))=true
  ·rw [Bool.and_eq_true,decide_eq_true_eq,decide_eq_true_eq] at k
   exact k.2
  ·by_cases k2:(numS r).2.2=0
   ·rw [if_pos ⟨k2,Bool.eq_false_iff.2 k⟩] at hz;cases hz
   ·rw [if_neg (fun q=>k2 q.1)] at hz;exact absurd hz k2
 ·exact h
attribute [local irreducible] vecS smallS entS cartS
theorem ptake_o (n:Nat) (r:RS) (hr:rdOk r):OCall Tryz.prog 130 [.o (.ptr 1000 n 0)] (memL [(1000,(n+1,some (rdM r)))]) (cV (cartS r).1.1 (cartS r).1.2 false) (memL [(1000,(n+1,some (rdM (cartS r).2)))]):=by
 refine ocall_of1 Tryz.func130 rfl (fun w0 F S0 M0=>?_)
 have hv8:=vec_len8 r
 rw [cartS_eq]
 obtain ⟨V,r1,h1⟩:∃ a r1,vecS r=(a,r1):=pr_ex _
 have o1:rdOk r1:=by have:=par_vec.rd hr;rwa [h1] at this
 haveI:∀ p g m:Nat,OC Tryz.prog 161 [.o (.ptr p g 0)] [(p,(m,some (rdM r)))] [] (m=g+1) (.a (v8L V)) [(p,(m,some (rdM r1)))]:=fun p g m=>⟨fun h=>by
  obtain rfl:=h
  have:=(rvec_o g r hr).one p
  rw [ren_vV,vV8 hv8,h1] at this
  exact this⟩
 rw [h1] at hv8 ⊢
 clear h1
 dsimp only at hv8 ⊢
 obtain ⟨k,hk⟩:=small_nat 400 r1
 obtain ⟨r2,h2⟩:∃ r2,(smallS 400 r1).2=r2:=⟨_,rfl⟩
 have o2:rdOk r2:=by have:=(par_small 400).rd o1;rwa [h2] at this
 haveI:∀ p g m:Nat,OC Tryz.prog 65 [.o (.ptr p g 0),.p (.i 400)] [(p,(m,some (rdM r1)))] [] (m=g+1) (.p (.i (k:Int))) [(p,(m,some (rdM r2)))]:=fun p g m=>⟨fun h=>by obtain rfl:=h;have:=(small_o g r1 400 (by decide) o1.1 o1.2).one p;rwa [hk,h2] at this⟩
 have hk4:(k:Int)≤400:=by rw [← hk];exact small_le (by decide) r1
 rw [hk,h2,Int.toNat_natCast]
 clear hk h2
 have okS_is:∀ (a z:Crt) (q:RS),okS a z q=(if q.2=0 then a else z,q):=fun _ _ _=>rfl
 rw [okS_is]
 repeat' (first|refine jx5 ?_|refine jy0 ?_ ?_|exact spF|refine spQ fun hq hq'=>?_|refine spN fun hn=>?_|fail)
 refine aws_says (says_nil_at (p:=3) (k:=8) (o:=901) (ty:=217) (es:=4) (ds:=v8L V++[.osl 901 0 4 0 0]) rfl rfl rfl rfl (by decide) (by decide)) ?_
 refine aws_loopS [9,10,11,12,13,14,15,16,17,18,19,20,21] [1000,3,901] (fun (x:Nat × Nat × List Ent × RS)=>[(9,.p (.i x.1))]) (fun x=>[(1000,(n+1,some (rdM x.2.2.2))),(3,(1,some (.box 144 (v8L V++[.osl 901 x.2.1 4 0 x.2.2.1.length])))),(901,(x.2.1+1,some (.buf 217 4 (x.2.2.1.map eR))))])
  (fun x=>x.1≤k∧manyS entS x.1 r2=(x.2.2.1,x.2.2.2)) (fun x=>k - x.1) (0,0,[],r2) ⟨Nat.zero_le _,rfl⟩ (by exact knA) (by exact knA) ?_
 rintro ⟨i,g,L,q⟩ β γ ⟨hi,hL⟩
 dsimp only at hi hL ⊢
 have hll:L.length≤400:=by have:=many_len entS r2 i;rw [hL] at this;dsimp only at this;omega
 have oq:rdOk q:=by have:=(par_many par_ent i).rd o2;rwa [hL] at this
 by_cases hik:i < k∧q.2=0
 ·obtain ⟨hik,hq⟩:=hik
  have d1:decide ((i:Int) < (k:Int))=true:=decide_eq_true (by omega)
  have d2:decide (q.2≠0)=false:=decide_eq_false fun h=>h hq
  have hn:manyS entS (i+1) r2=(L++[(entS q).1],(entS q).2):=by rw [manyS,hL,if_pos hq]
  obtain ⟨e,q',he⟩:∃ e q',entS q=(e,q'):=pr_ex _
  haveI:∀ p g m:Nat,OC Tryz.prog 162 [.o (.ptr p g 0)] [(p,(m,some (rdM q)))] [] (m=g+1) (eV e) [(p,(m,some (rdM q')))]:=fun p g m=>⟨fun h=>by obtain rfl:=h;have:=(entry_o g q oq).one p;rwa [he] at this⟩
  rw [he] at hn
  clear he
  repeat' (first|refine jx5 ?_|refine jy0 ?_ ?_|exact spF|refine spQ fun hq hq'=>?_|refine spN fun hn=>?_|fail)
  refine aws_draws [(3,1000),(5,901),(7,3)] mixed (by kernel_rfl) ?_
  repeat' (first|refine jx7 ?_|refine jy1 ?_ ?_|exact spF|refine spQ fun hq hq'=>?_|fail)
  as_aux_lemma=>
   repeat' (first|refine jx5 ?_|refine jy0 ?_ ?_|exact spF|refine spQ fun hq hq'=>?_|refine spN fun hn=>?_|fail)
   exact ⟨(i+1,g+1,L++[e],q'),_,by dsimp only;omega,⟨by dsimp only;omega,hn⟩,.refl,by exact frA⟩
 ·have hm:manyS entS k r2=(L,q):=by
   by_cases h:i < k
   ·have hq:q.2≠0:=fun hq=>hik ⟨h,hq⟩
    have:=many_bad (P:=entS) r2 (k:=i) (by rw [hL];exact hq) (k - i)
    rw [show i+(k - i)=k by omega] at this
    rw [this,hL]
   ·rw [show k=i by omega,hL]
  have hex:decide ((i:Int) < (k:Int))=false∨(decide ((i:Int) < (k:Int))=true∧decide (q.2≠0)=true):=by
   by_cases h:i < k
   ·exact .inr ⟨decide_eq_true (by omega),decide_eq_true fun hq=>hik ⟨h,hq⟩⟩
   ·exact .inl (decide_eq_false (by omega))
  rw [hm]
  dsimp only
  clear hm hL hik
  haveI:PC Tryz.prog 142 [cV V L false] True (.p (.b (rightF V L))):=⟨fun _=>right_w V L false hv8 (by omega)⟩
  refine aws_says (says_frz_at (p:=3) (k:=8) (o:=901) (ds:=cL V L false) rfl rfl rfl rfl rfl (by rw [List.length_map]) (by decide)) ?_
  generalize rightF V L=B at this ⊢
  by_cases hz:(mustS B q).2=0
  ·have d4:decide ((mustS B q).2≠0)=false:=decide_eq_false fun h=>h hz
   rw [if_pos hz]
   rcases hex with d1 | ⟨d1,d2⟩
   all_goals
    as_aux_lemma=>
     repeat' (first|refine jx5 ?_|refine jy0 ?_ ?_|exact spF|refine spQ fun hq hq'=>?_|refine spN fun hn=>?_|fail)
     exact RetO.mk (oc1 rfl rfl rfl rfl rfl rfl finL_p rfl) ⟨.box finL_p,trivial⟩
  ·have d4:decide ((mustS B q).2≠0)=true:=decide_eq_true hz
   rw [if_neg hz]
   rcases hex with d1 | ⟨d1,d2⟩
   all_goals
    as_aux_lemma=>
     repeat' (first|refine jx5 ?_|refine jy0 ?_ ?_|exact spF|refine spQ fun hq hq'=>?_|refine spN fun hn=>?_|fail)
     exact RetO.mk (oc1 rfl rfl rfl rfl rfl rfl fin9 rfl) ⟨.box finL_p,trivial⟩
end Go.Proofs.YtpgppgehhclfoaaGreat.Wi
namespace Go.Aw
open Go Go.RowKit
theorem u8_lt {x y:Nat} (hx:x < 256) (hy:y < 256):(UInt8.ofNat x < UInt8.ofNat y)↔x < y:=by
 rw [UInt8.lt_iff_toNat_lt,UInt8.toNat_ofNat',UInt8.toNat_ofNat',Nat.mod_eq_of_lt (by omega),Nat.mod_eq_of_lt (by omega)]
theorem u8_eq {x y:Nat} (hx:x < 256) (hy:y < 256):(UInt8.ofNat x=UInt8.ofNat y)↔x=y:=by
 rw [← UInt8.toNat_inj,UInt8.toNat_ofNat',UInt8.toNat_ofNat',Nat.mod_eq_of_lt (by omega),Nat.mod_eq_of_lt (by omega)]
end Go.Aw
namespace Go.Proofs.YtpgppgehhclfoaaGreat.Wi
open Go Go.RowKit Go.Aw Go.Aw.Cart Go.Proofs.YtpgppgehhclfoaaGreat.Ca
set_option linter.unusedVariables false
set_option linter.unusedSimpArgs false
set_option maxRecDepth 8000
set_option maxHeartbeats 4000000
theorem bless:∀ {a b:List Nat},okB a→okB b→Op.bytesLess (a.map UInt8.ofNat) (b.map UInt8.ofNat)=bLt a b
 | [],[],_,_=>rfl
 | _::_,[],_,_=>rfl
 | [],_::_,_,_=>rfl
 | x::a,y::b,ha,hb=>by
  have hx:=ha x List.mem_cons_self
  have hy:=hb y List.mem_cons_self
  have ih:=bless (a:=a) (b:=b) (fun c hc=>ha c (List.mem_cons_of_mem _ hc)) (fun c hc=>hb c (List.mem_cons_of_mem _ hc))
  rw [List.map_cons,List.map_cons,Op.bytesLess,ih,bLt]
  by_cases e:x=y
  ·subst e
   rw [if_pos rfl]
   have h1:decide (UInt8.ofNat x < UInt8.ofNat x)=false:=decide_eq_false (by rw [u8_lt hx hx];omega)
   simp [h1]
  ·rw [if_neg e]
   have h1:(UInt8.ofNat x == UInt8.ofNat y)=false:=by
    rw [Bool.eq_false_iff]
    intro q
    exact e ((u8_eq hx hy).1 (by simpa using q))
   have h2:decide (UInt8.ofNat x < UInt8.ofNat y)=decide (x < y):=decide_eq_decide.2 (u8_lt hx hy)
   rw [h1,h2];simp
theorem str_list (a:List Nat):(strOf a).toList=a.map UInt8.ofNat:=by
 rw [ByteArray.toList_eq];simp [strOf]
theorem str_eqL {a b:List Nat} (ha:okB a) (hb:okB b):((strOf a).toList == (strOf b).toList)=decide (a=b):=by
 rw [ByteArray.toList_eq,ByteArray.toList_eq];exact eq_str ha hb
theorem lop_sge {C:Ctx} {o:Oper} {σ:St} {t t':TypeId} {x y:Operand} {sz by_:Nat} {a b:List Nat} (ho:o.op=.binOp .geq t x y t') (hT:TI C.P t .string sz by_) (hx:σ.look x=.p (.v (.string (strOf a)))) (hy:σ.look y=.p (.v (.string (strOf b)))) (ha:okB a) (hb:okB b) (hd:dOk C o.dst=true) :
  LOp C o σ ⟨.p (.v (.bool (!bLt a b))),[]⟩ (fun _=>false):=
 lop_bin ho hx hy (fun w=>by
  obtain ⟨d,hdd,hk⟩:=hT.undd
  have:d=.string:=by cases d<;>simp [TK.of] at hk;rfl
  subst this
  have e:(eqGuard .geq t x y (.string (strOf a)) (.string (strOf b))).run C.P w=.ok () w:=by unfold eqGuard;simp [pure]
  simp only [Sem.run_bind,e,Result.andThen_ok]
  rw [binOp_string_geq,str_list,str_list,bless ha hb];rfl) rfl hd
theorem lop_sgt {C:Ctx} {o:Oper} {σ:St} {t t':TypeId} {x y:Operand} {sz by_:Nat} {a b:List Nat} (ho:o.op=.binOp .gtr t x y t') (hT:TI C.P t .string sz by_) (hx:σ.look x=.p (.v (.string (strOf a)))) (hy:σ.look y=.p (.v (.string (strOf b)))) (ha:okB a) (hb:okB b) (hd:dOk C o.dst=true) :
  LOp C o σ ⟨.p (.v (.bool (bLt b a))),[]⟩ (fun _=>false):=
 lop_bin ho hx hy (fun w=>by
  obtain ⟨d,hdd,hk⟩:=hT.undd
  have:d=.string:=by cases d<;>simp [TK.of] at hk;rfl
  subst this
  have e:(eqGuard .gtr t x y (.string (strOf a)) (.string (strOf b))).run C.P w=.ok () w:=by unfold eqGuard;simp [pure]
  have e3:(!(bLt a b||decide (a=b)))=bLt b a:=by
   cases h1:bLt a b with
   | true=>rw [bLt_asym h1];rfl
   | false=>
    by_cases h2:a=b
    ·subst h2;rw [bLt_irr,decide_eq_true rfl];rfl
    ·rw [decide_eq_false h2]
     cases h3:bLt b a with
     | true=>rfl
     | false=>exact absurd (bLt_tri h1 h3) h2
  simp only [Sem.run_bind,e,Result.andThen_ok]
  rw [binOp_string_gtr,str_eqL ha hb,str_list,str_list,bless ha hb,e3];rfl) rfl hd
theorem map_of {row:List PVal} {ds:List AC} (h:All2 (fun (p:PVal) (c:AC)=>AC.p p=c) row ds):row.map AC.p=ds:=by
 refine List.ext_getElem (by simp [h.1]) fun i h1 h2=>?_
 have h3:i < row.length:=by simpa using h1
 have:=h.2 i row[i] ds[i] (by simp [h3]) (by simp [h2])
 simpa using this
theorem lop_ld_atn {C:Ctx} {o:Oper} {σ:St} {T:TypeId} {x:Operand} {k:TK} {sz by_:Nat} {row:List PVal} {ds:List AC} (ho:o.op=.load T x) (hT:TI C.P T k sz by_) (hx:σ.look x=.p (.at_ row)) (hk:k.agg=true) (h0:0 < sz) (hs:row.length=sz) (hds:All2 (fun (p:PVal) (c:AC)=>AC.p p=c) row ds) (hd:dOk C o.dst=true):LOp C o σ ⟨.a ds,[]⟩ (fun _=>false):=by
 subst hs
 have:=lop_load_at (o:=o) ho hx hk h0 (by simp) hd
 rw [List.take_length,map_of hds] at this
 exact this
theorem lop_ld_t9 {C:Ctx} {o:Oper} {σ:St} {T:TypeId} {x:Operand} {k:TK} {sz by_:Nat} {ob g n:Nat} {ty:TypeId} {c0 c1 c2 c3 c4 c5 c6 c7 c8 c9:AC} (ho:o.op=.load T x) (hT:TI C.P T k sz by_) (hx:σ.look x=.o (.ptr ob g 1)) (hm:σ.mem ob=(n,some (.box ty [c0,c1,c2,c3,c4,c5,c6,c7,c8,c9]))) (hn:n=g+1)
  (hk:k.agg=true) (hs:sz=9) (hd:dOk C o.dst=true):LOp C o σ ⟨.a [c1,c2,c3,c4,c5,c6,c7,c8,c9],[]⟩ (fun y=>y == ob):=by
 subst hs;exact lop_load_box (o:=o) ho hx hm hn hk (by simp) hd
abbrev kR (k:Kd):List PVal:=[.v (.string (strOf k.1)),.k .u64 (k.2.1.getD 0 default),.k .u64 (k.2.1.getD 1 default),.k .u64 (k.2.1.getD 2 default),.k .u64 (k.2.1.getD 3 default),.k .u64 (k.2.1.getD 4 default),.k .u64 (k.2.1.getD 5 default),.k .u64 (k.2.1.getD 6 default),.k .u64 (k.2.1.getD 7 default),.sl 4 (k.2.2.map eR) false]
abbrev kL (k:Kd):List AC:=[.p (.v (.string (strOf k.1))),.p (.k .u64 (k.2.1.getD 0 default)),.p (.k .u64 (k.2.1.getD 1 default)),.p (.k .u64 (k.2.1.getD 2 default)),.p (.k .u64 (k.2.1.getD 3 default)),.p (.k .u64 (k.2.1.getD 4 default)),.p (.k .u64 (k.2.1.getD 5 default)),.p (.k .u64 (k.2.1.getD 6 default)),.p (.k .u64 (k.2.1.getD 7 default)),.p (.sl 4 (k.2.2.map eR) false)]
structure KdIn (k:Kd):Prop where
 key:okB k.1
 len:k.1.length≤9223372036854775807
 vec:vecOk k.2.1
 few:k.2.2.length≤1000000000
namespace W9
theorem lopC {C:Ctx} {o:Oper} {σ:St} {e:Eff} {ro:Nat→Bool} (h:LOp C o σ e ro:=by
  first|(apply lop_sge;(focus rfl);(focus exact inferInstance);(focus rfl);(focus rfl);(focus assumption);(focus assumption);(focus rfl))|(apply lop_sgt;(focus rfl);(focus exact inferInstance);(focus rfl);(focus rfl);(focus assumption);(focus assumption);(focus rfl))|(apply lop_len_sb;(focus rfl);(focus exact inferInstance);(focus rfl);(focus rfl))|(apply gLoad;(focus rfl);apply lop_ld_t9;(focus rfl);(focus exact inferInstance);(focus rfl);(focus rfl);(focus rfl);(focus rfl);(focus rfl);(focus rfl))|(apply gLoad;(focus rfl);apply lop_ld_atn;(focus rfl);(focus exact inferInstance);(focus rfl);(focus rfl);(focus decide);(focus rfl);(focus repeat' (first|exact All2.nil|(apply All2.cons;(focus rfl))));(focus rfl))|exact W8.lopC|fail):LOp C o σ e ro:=h
section steps
variable {C:Ctx} {ops:Array Oper} {o:Oper} {rest:List Oper} {K:St→Prop} {σ:St} {e:Eff} {ro:Nat→Bool} {W:List (Nat × Nat)} {i:Nat}
theorem rnC {d:Nat} (hg:Guard ops σ o true:=by first|exact gd_n rfl rfl|exact gd_t rfl rfl rfl rfl|exact gd_t rfl rfl rfl (by assumption)) (hd:o.dst=some d:=by rfl) (h:LOp C o σ e ro:=by exact lopC) (hk:RunN C ops rest K (e.app (some d) σ)):RunN C ops (o::rest) K σ:=rn_any hg hd h hk
theorem rkC {d:Nat} (hg:Guard ops σ o true:=by first|exact gd_n rfl rfl|exact gd_t rfl rfl rfl rfl|exact gd_t rfl rfl rfl (by assumption)) (hd':o.dst=some d:=by rfl) (hd:dOk C o.dst=true:=by rfl) (h:LOp C o σ e ro:=by exact lopC) (hro:∀ x,ro x=true→okObj ops W i x=true:=by first|exact fun _=>ro_none|exact ro_one rfl|exact ro_k1 rfl|exact ro_one (by kernel_rfl)|exact ro_k1 (by kernel_rfl)|exact ro_kIn (by decide)) (hob:∀ p∈e.obj,(i,p.1)∈W:=by first|exact ob_none|exact ob_one (by decide)|decide) (hk:RunK C ops W (i+1) rest K (e.app (some d) σ)):RunK C ops W i (o::rest) K σ:=rk_wr hg hd' hd h hro hob hk
end steps
end W9
open W9
end Go.Proofs.YtpgppgehhclfoaaGreat.Wi
