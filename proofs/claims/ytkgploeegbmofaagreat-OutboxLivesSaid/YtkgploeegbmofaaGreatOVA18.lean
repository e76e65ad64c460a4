/- the reference's writers -/
import Derived.Test.YtkgploeegbmofaaGreatOVA13
import Derived.Test.YtkgploeegbmofaaGreatOVA11
import Derived.Test.YtkgploeegbmofaaGreatOVA38
import Derived.Test.YtkgploeegbmofaaGreatOVA10
namespace Go.Proofs.YtkgploeegbmofaaGreat.Wi
open Go Go.RowKit Go.Aw Go.Aw.Cart Go.Proofs.YtkgploeegbmofaaGreat.Ca
set_option linter.unusedVariables false
set_option linter.unusedSimpArgs false
set_option maxRecDepth 8000
set_option maxHeartbeats 4000000
namespace PW3
end PW3
end Go.Proofs.YtkgploeegbmofaaGreat.Wi
namespace Go.Proofs.YtkgploeegbmofaaGreat.Wi
open Go Go.RowKit Go.Aw Go.Aw.Cart Go.Proofs.YtkgploeegbmofaaGreat.Ca
set_option linter.unusedVariables false
set_option linter.unusedSimpArgs false
set_option maxRecDepth 8000
set_option maxHeartbeats 4000000
theorem numB_le (x:Nat):(numB x).length≤9:=by
 have:=beF_le 8 x
 show (beF 8 x).length+1≤9
 omega
structure KdW (k:Kd):Prop where
 key:okB k.1
 len:k.1.length≤20
 vec:vecOk k.2.1
 few:k.2.2.length≤400
 ent:∀ e∈k.2.2,entOk e
theorem drop_at {a:List Nat} {i:Nat} (h:i < a.length):a.drop i=a.getD i default::a.drop (i+1):=by
 rw [List.drop_eq_getElem_cons h,List.getD_eq_getElem?_getD,List.getElem?_eq_getElem h];rfl
namespace PW7
theorem lopC {C:Ctx} {o:Oper} {σ:St} {e:Eff} {ro:Nat→Bool} (h:LOp C o σ e ro:=by
  first|(apply lop_ix_sb;(focus rfl);(focus exact inferInstance);(focus rfl);(focus assumption);(focus rfl);(focus omega);(focus omega);(focus rfl))|exact W9.lopC|fail):LOp C o σ e ro:=h
section steps
variable {C:Ctx} {ops:Array Oper} {o:Oper} {rest:List Oper} {K:St→Prop} {σ:St} {e:Eff} {ro:Nat→Bool} {W:List (Nat × Nat)} {i:Nat}
theorem rnC {d:Nat} (hg:Guard ops σ o true:=by first|exact gd_n rfl rfl|exact gd_t rfl rfl rfl rfl|exact gd_t rfl rfl rfl (by assumption)) (hd:o.dst=some d:=by rfl) (h:LOp C o σ e ro:=by exact lopC) (hk:RunN C ops rest K (e.app (some d) σ)):RunN C ops (o::rest) K σ:=rn_any hg hd h hk
theorem rkC {d:Nat} (hg:Guard ops σ o true:=by first|exact gd_n rfl rfl|exact gd_t rfl rfl rfl rfl|exact gd_t rfl rfl rfl (by assumption)) (hd':o.dst=some d:=by rfl) (hd:dOk C o.dst=true:=by rfl) (h:LOp C o σ e ro:=by exact lopC) (hro:∀ x,ro x=true→okObj ops W i x=true:=by first|exact fun _=>ro_none|exact ro_one rfl|exact ro_k1 rfl|exact ro_one (by kernel_rfl)|exact ro_k1 (by kernel_rfl)|exact ro_kIn (by decide)) (hob:∀ p∈e.obj,(i,p.1)∈W:=by first|exact ob_none|exact ob_one (by decide)|decide) (hk:RunK C ops W (i+1) rest K (e.app (some d) σ)):RunK C ops W i (o::rest) K σ:=rk_wr hg hd' hd h hro hob hk
end steps
end PW7
theorem refLess_w (a b:List Nat) (ha:okB a) (hb:okB b) (hal:a.length≤9223372036854775807) (hbl:b.length≤9223372036854775807):PCall Tryz.prog 182 [.p (.v (.string (strOf a))),.p (.v (.string (strOf b)))] (.p (.b (bLt a b))):=by
 refine pcall_of Tryz.func182 rfl (fun w0 F S0 M0=>?_)
 obtain ⟨R,hR⟩:∃ R,R=bLt a b:=⟨_,rfl⟩
 rw [← hR]
 open PW7 in
 repeat' (first|refine jx5 ?_|refine jy0 ?_ ?_|exact spF|refine spQ fun hq hq'=>?_|refine spN fun hn=>?_|fail)
 refine aws_loopS (0::1::[4,5,6,7,8,9,10,11,12,13,14,15,16,17,18,19,20,21,22,23,24,25,26,27,28,29,30,31]) [] (fun (i:Nat)=>[(5,.p (.i i)),(0,.p (.v (.string (strOf a)))),(1,.p (.v (.string (strOf b))))]) (fun _=>[]) (fun i=>i≤a.length∧i≤b.length∧R=bLt (a.drop i) (b.drop i)) (fun i=>a.length - i) 0 ⟨Nat.zero_le _,Nat.zero_le _,hR⟩ (by exact knA) (by exact knA) ?_
 rintro i β γ ⟨hia,hib,hx⟩
 clear hR
 by_cases h1:i < a.length
 ·have d1:decide ((i:Int) < (a.length:Int))=true:=decide_eq_true (by omega)
  by_cases h2:i < b.length
  ·have d2:decide ((i:Int) < (b.length:Int))=true:=decide_eq_true (by omega)
   rw [drop_at h1,drop_at h2] at hx
   rw [show a.getD i default=a.getD (i:Int).toNat default by rw [Int.toNat_natCast],show b.getD i default=b.getD (i:Int).toNat default by rw [Int.toNat_natCast]] at hx
   by_cases he:a.getD (i:Int).toNat default=b.getD (i:Int).toNat default
   ·have d3:decide (((a.getD (i:Int).toNat default:Nat):Int)≠((b.getD (i:Int).toNat default:Nat):Int))=false:=decide_eq_false fun q=>q (by omega)
    have hx2:R=bLt (a.drop (i+1)) (b.drop (i+1)):=by
     rw [hx,he,bLt];simp
    clear hx
    open PW7 in
    as_aux_lemma=>
     repeat' (first|refine jx6 ?_|refine jy0 ?_ ?_|exact spF|refine spQ fun hq hq'=>?_|refine spN fun hn=>?_|fail)
     exact ⟨i+1,_,by omega,⟨by omega,by omega,hx2⟩,.refl,by exact frA⟩
   ·have d3:decide (((a.getD (i:Int).toNat default:Nat):Int)≠((b.getD (i:Int).toNat default:Nat):Int))=true:=decide_eq_true fun q=>he (by omega)
    have hx2:R=decide (((a.getD (i:Int).toNat default:Nat):Int) < ((b.getD (i:Int).toNat default:Nat):Int)):=by
     rw [hx,bLt,if_neg he]
     exact decide_eq_decide.2 (by omega)
    rw [hx2]
    clear hx hx2
    open PW7 in
    as_aux_lemma=>
     repeat' (first|refine jx6 ?_|refine jy0 ?_ ?_|exact spF|refine spQ fun hq hq'=>?_|refine spN fun hn=>?_|fail)
     exact rt1 rfl rfl finS_p rfl
  ·have d2:decide ((i:Int) < (b.length:Int))=false:=decide_eq_false (by omega)
   have hx2:R=decide ((a.length:Int) < (b.length:Int)):=by
    rw [hx,List.drop_of_length_le (by omega:b.length≤i),decide_eq_false (by omega)]
    cases a.drop i<;>rfl
   rw [hx2]
   clear hx hx2
   open PW7 in
   as_aux_lemma=>
    repeat' (first|refine jx5 ?_|refine jy0 ?_ ?_|exact spF|refine spQ fun hq hq'=>?_|refine spN fun hn=>?_|fail)
    exact rt1 rfl rfl finS_p rfl
 ·have d1:decide ((i:Int) < (a.length:Int))=false:=decide_eq_false (by omega)
  have hx2:R=decide ((a.length:Int) < (b.length:Int)):=by
   rw [hx,List.drop_of_length_le (by omega:a.length≤i)]
   by_cases h2:i < b.length
   ·rw [drop_at h2,decide_eq_true (by omega)];rfl
   ·rw [List.drop_of_length_le (by omega:b.length≤i),decide_eq_false (by omega)];rfl
  rw [hx2]
  clear hx hx2
  open PW7 in
  as_aux_lemma=>
   repeat' (first|refine jx5 ?_|refine jy0 ?_ ?_|exact spF|refine spQ fun hq hq'=>?_|refine spN fun hn=>?_|fail)
   exact rt1 rfl rfl finS_p rfl
end Go.Proofs.YtkgploeegbmofaaGreat.Wi
namespace Go.Proofs.YtkgploeegbmofaaGreat.Wi
open Go Go.RowKit Go.Aw Go.Aw.Cart Go.Proofs.YtkgploeegbmofaaGreat.Ca
set_option linter.unusedVariables false
set_option linter.unusedSimpArgs false
set_option maxRecDepth 8000
set_option maxHeartbeats 4000000
namespace WA
theorem lopC {C:Ctx} {o:Oper} {σ:St} {e:Eff} {ro:Nat→Bool} (h:LOp C o σ e ro:=by
  first|(apply lop_cv_sb;(focus rfl);(focus exact inferInstance);(focus exact inferInstance);(focus exact inferInstance);(focus rfl);(focus assumption);(focus first|(simp only [maxLen,List.length_append,List.length_cons,List.length_nil,List.length_take,List.length_drop,List.length_map];omega)|omega);(focus rfl))|(apply lop_cv_bs;(focus rfl);(focus exact inferInstance);(focus exact inferInstance);(focus exact inferInstance);(focus rfl);(focus rfl))|exact W9.lopC|fail):LOp C o σ e ro:=h
section steps
variable {C:Ctx} {ops:Array Oper} {o:Oper} {rest:List Oper} {K:St→Prop} {σ:St} {e:Eff} {ro:Nat→Bool} {W:List (Nat × Nat)} {i:Nat}
theorem rnC {d:Nat} (hg:Guard ops σ o true:=by first|exact gd_n rfl rfl|exact gd_t rfl rfl rfl rfl|exact gd_t rfl rfl rfl (by assumption)) (hd:o.dst=some d:=by rfl) (h:LOp C o σ e ro:=by exact lopC) (hk:RunN C ops rest K (e.app (some d) σ)):RunN C ops (o::rest) K σ:=rn_any hg hd h hk
theorem rkC {d:Nat} (hg:Guard ops σ o true:=by first|exact gd_n rfl rfl|exact gd_t rfl rfl rfl rfl|exact gd_t rfl rfl rfl (by assumption)) (hd':o.dst=some d:=by rfl) (hd:dOk C o.dst=true:=by rfl) (h:LOp C o σ e ro:=by exact lopC) (hro:∀ x,ro x=true→okObj ops W i x=true:=by first|exact fun _=>ro_none|exact ro_one rfl|exact ro_k1 rfl|exact ro_one (by kernel_rfl)|exact ro_k1 (by kernel_rfl)|exact ro_kIn (by decide)) (hob:∀ p∈e.obj,(i,p.1)∈W:=by first|exact ob_none|exact ob_one (by decide)|decide) (hk:RunK C ops W (i+1) rest K (e.app (some d) σ)):RunK C ops W i (o::rest) K σ:=rk_wr hg hd' hd h hro hob hk
end steps
end WA
open WA
theorem kdB_len {k:Kd} (h:k.1.length≤20) (hv:vecOk k.2.1) (hr:rightF k.2.1 k.2.2=true):(kdB k).length≤20029:=by
 have h1:=cartB_len hv hr
 have h2:=numI_len ((k.1.length:Nat):Int)
 rw [numI_nat] at h2
 unfold kdB textB
 rw [List.length_append,List.length_append]
 have h3:(cartB k.2).length≤20000:=h1
 omega
theorem writeAll_ok (l:List Kd) (ex:Bool) (hk:keysF l=true) (hin:∀ k∈l,KdI k):PCall Tryz.prog 89 [.p (.sl 10 (l.map kR) ex)] (.tup [.one (.p (.sl 1 ((listB l).map bR) false)),.one (.p (.i 0))]):=by
 refine pcall_of Tryz.func89 rfl (fun w0 F S0 M0=>?_)
 have ho:=keys_iff.1 hk
 have hl:=ho.few
 haveI:PC Tryz.prog 28 [.p (.sl 10 (l.map kR) ex)] True (.p (.b true)):=⟨fun _=>by
  have:=pright_w l ex (by omega) hin (fun k hm=>by have:=(ok_iff.1 (ho.cart k hm)).few;omega)
  rwa [hk] at this⟩
 have d0:(!true)=false:=rfl
 have b1:l.length < 18446744073709551616:=by omega
 have hnl:=numI_len (l.length:Int)
 rw [numI_nat] at hnl
 have hB:listB l=numB l.length++l.flatMap kdB:=rfl
 rw [hB]
 repeat' (first|refine jx5 ?_|refine jy0 ?_ ?_|exact spF|refine spQ fun hq hq'=>?_|refine spN fun hn=>?_|fail)
 refine rn_says (says_wr (p:=11) rfl) rfl ?_
 repeat' (first|refine jx5 ?_|refine jy0 ?_ ?_|exact spF|refine spQ fun hq hq'=>?_|refine spN fun hn=>?_|fail)
 have e0:([]++numB l.length:List Nat)=numB l.length:=rfl
 rw [e0]
 generalize numB l.length=B0 at hnl ⊢
 refine aws_loopS [6,19,20,21,22,23,24,25,26,27,28,29,30,31,32] [11,6] (fun (x:Nat × List Nat × Option MO)=>[(19,.p (.i x.1))]) (fun x=>[(11,(1,some (.abs (wrA x.2.1)))),(6,(x.1,x.2.2))]) (fun x=>x.1≤l.length∧x.2.1=B0++(l.take x.1).flatMap kdB∧x.2.1.length≤9+20029 * x.1) (fun x=>l.length - x.1) (0,B0,none) ⟨Nat.zero_le _,by simp,by dsimp only;omega⟩ (by exact knA) (by exact knA) ?_
 rintro ⟨i,L,c6⟩ β γ ⟨hi,hL,hll⟩
 dsimp only at hi hL hll ⊢
 by_cases hil:i < l.length
 ·have d1:decide ((i:Int) < (l.length:Int))=true:=decide_eq_true (by omega)
  have ei:(i:Int).toNat=i:=Int.toNat_natCast i
  have hm:l.getD (i:Int).toNat default∈l:=by rw [ei,getD_at hil];exact List.getElem_mem _
  have okx:=(hin _ hm).key
  have vx:=(hin _ hm).vec
  have kx:=ho.key _ hm
  have rx:=ho.cart _ hm
  have hkl:=kdB_len kx vx rx
  have hft:=flat_take kdB hil
  rw [← ei] at hft
  have kx':(l.getD (i:Int).toNat default).1.length≤1000000:=by omega
  have g1:L.length≤900000000:=by omega
  have ht:(textB (l.getD (i:Int).toNat default).1).length≤29:=by
   have h2:=numI_len (((l.getD (i:Int).toNat default).1.length:Nat):Int)
   rw [numI_nat] at h2
   unfold textB
   rw [List.length_append];omega
  have g2:(L++textB (l.getD (i:Int).toNat default).1).length≤800000000:=by rw [List.length_append];omega
  have e2:L++textB (l.getD (i:Int).toNat default).1++cartB ((l.getD (i:Int).toNat default).2.1,(l.getD (i:Int).toNat default).2.2)=L++kdB (l.getD (i:Int).toNat default):=by rw [List.append_assoc];rfl
  have hn:L++textB (l.getD (i:Int).toNat default).1++cartB ((l.getD (i:Int).toNat default).2.1,(l.getD (i:Int).toNat default).2.2)=B0++(l.take (i+1)).flatMap kdB:=by
   rw [e2,hL]
   rw [show (i:Int).toNat=i from ei] at hft ⊢
   rw [hft,List.append_assoc]
  have g5:(L++textB (l.getD (i:Int).toNat default).1++cartB ((l.getD (i:Int).toNat default).2.1,(l.getD (i:Int).toNat default).2.2)).length≤9+20029 * (i+1):=by rw [e2,List.length_append];omega
  clear hft hL e2 hkl hin ho kx
  as_aux_lemma=>
   repeat' (first|refine jx5 ?_|refine jy0 ?_ ?_|exact spF|refine spQ fun hq hq'=>?_|refine spN fun hn=>?_|fail)
   exact ⟨(i+1,_,_),_,by dsimp only;omega,⟨by dsimp only;omega,hn,g5⟩,.refl,by exact frA⟩
 ·have d1:decide ((i:Int) < (l.length:Int))=false:=decide_eq_false (by omega)
  rw [List.take_of_length_le (by omega)] at hL
  rw [← hL]
  clear hL hin ho
  have hl9:L.length≤1000000000:=by omega
  as_aux_lemma=>
   repeat' (first|refine jx5 ?_|refine jy0 ?_ ?_|exact spF|refine spQ fun hq hq'=>?_|refine spN fun hn=>?_|fail)
   exact rt2 rfl rfl finS_p rfl finS_p rfl
end Go.Proofs.YtkgploeegbmofaaGreat.Wi
namespace Go.Proofs.YtkgploeegbmofaaGreat.Sh
open Go Go.RowKit Go.Aw Go.Aw.Sha
set_option linter.unusedVariables false
set_option linter.unusedSimpArgs false
set_option maxRecDepth 8000
set_option maxHeartbeats 4000000
attribute [local irreducible] pad blocks block sum
theorem okB_pad {b:List Nat} (h:okB b):okB (pad b):=by
 unfold pad
 refine okB.append (okB.append (okB.append h (okB.cons (by decide) .nil)) ?_) ?_
 ·intro n hn
  rw [List.eq_of_mem_replicate hn];decide
 ·intro n hn
  obtain ⟨i,_,rfl⟩:=List.mem_map.1 hn
  exact Nat.mod_lt _ (by decide)
theorem okB_chunk {b:List Nat} (h:okB b) (n m:Nat):okB ((b.drop n).take m):=fun x hx=>h x (List.mem_of_mem_drop (List.mem_of_mem_take hx))
theorem rsum_c (b:List Nat) (ex:Bool) (h:b.length≤500000000) (hb:okB b):PCall Tryz.prog 192 [bytesN b ex] (.a ((sum b).map bc)):=by
 refine pcall_of Tryz.func192 rfl (fun w0 F S0 M0=>?_)
 have hp:(pad b).length≤1000000000:=by rw [pad_len];unfold zeros;omega
 have hp64:=pad_64 b
 have hpo:=okB_pad hb
 have hsum:sum b=digest (blocks (pad b) ((pad b).length / 64)):=sum_def _
 repeat' (first|refine jx22 ?_|refine jy0 ?_ ?_|exact spF|refine spQ fun hq hq'=>?_|refine spN fun hn=>?_|fail)
 generalize hP:pad b=P at hp hp64 hsum hpo ⊢
 refine aws_loopS [5,11,12,13,14,15,16,17,18,19,20,21,22,23] [3] (fun (x:Nat × Int × V8)=>[(5,.p (.i x.2.1))]) (fun x=>[(3,(1,some (.box 117 (u8c x.2.2))))])
  (fun x=>x.1≤P.length / 64∧x.2.1=64 * (x.1:Int)∧x.2.2=blocks P x.1) (fun x=>P.length / 64 - x.1) (0,0,firstV) ⟨Nat.zero_le _,rfl,blocks_zero P⟩ (by exact knA) (by exact knA) ?_
 rintro ⟨j,t,v⟩ β γ ⟨hj,ht,hv⟩
 simp only at hj ht hv
 dsimp only
 by_cases hjl:j < P.length / 64
 ·have hd:decide (t < (P.length:Int))=true:=decide_eq_true (by omega)
  have hcl:((P.drop t.toNat).take ((t+64).toNat - t.toNat)).length=64:=by simp only [List.length_take,List.length_drop];omega
  have hco:okB ((P.drop t.toNat).take ((t+64).toNat - t.toNat)):=okB_chunk hpo _ _
  have hvo:v.ok:=by rw [hv];exact blocks_ok P j
  obtain ⟨B,hB⟩:∃ B,B=block v ((P.drop t.toNat).take ((t+64).toNat - t.toNat)):=⟨_,rfl⟩
  haveI:PC Tryz.prog 201 [.a (u8c v),bytesN ((P.drop t.toNat).take ((t+64).toNat - t.toNat)) false] True (.a (u8c B)):=⟨fun _=>by rw [hB];exact rnext_c v _ false hcl hco hvo⟩
  repeat' (first|refine jx24 ?_|refine jy0 ?_ ?_|exact spF|refine spQ fun hq hq'=>?_|refine spN fun hn=>?_|fail)
  refine aws_draws [(7,3)] mixed (by kernel_rfl) ?_
  repeat' (first|refine jx25 ?_|refine jy1 ?_ ?_|exact spF|refine spQ fun hq hq'=>?_|fail)
  repeat' (first|refine jx24 ?_|refine jy0 ?_ ?_|exact spF|refine spQ fun hq hq'=>?_|refine spN fun hn=>?_|fail)
  refine ⟨(j+1,t+64,B),_,by dsimp only;omega,⟨by dsimp only;omega,by dsimp only;omega,?_⟩,.refl,by exact frA⟩
  dsimp only
  rw [blocks_succ,← hv,hB,chunkAt,show t.toNat=64 * j by omega,show (t+64).toNat - 64 * j=64 by omega]
 ·have hd:decide (t < (P.length:Int))=false:=decide_eq_false (by omega)
  repeat' (first|refine jx24 ?_|refine jy0 ?_ ?_|exact spF|refine spQ fun hq hq'=>?_|refine spN fun hn=>?_|fail)
  have hj':j=P.length / 64:=by omega
  obtain ⟨va,vb,vc,vd,ve,vf,vg,vh⟩:=v
  generalize hV:(V8.mk va vb vc vd ve vf vg vh)=V at hv
  have hvl:V.list=[va,vb,vc,vd,ve,vf,vg,vh]:=by rw [← hV];rfl
  refine aws_loopS [7,24,25,26,27,28,29,30,31,32,33,34,35,36,37,38,39] [3,6] (fun (x:Nat × List Nat)=>[(7,.p (.i x.1))]) (fun x=>[(3,(1,some (.box 117 (V.list.map uc)))),(6,(1,some (.box 33 (x.2.map bc))))])
   (fun x=>x.1≤32∧x.2=digTo V x.1) (fun x=>32 - x.1) (0,digTo V 0) ⟨Nat.zero_le _,rfl⟩ (by exact knA) (by subst hV;exact knA) ?_
  rintro ⟨i,ds⟩ β' γ' ⟨hi,hds⟩
  simp only at hi hds
  have hdl:ds.length=32:=by rw [hds];exact digTo_len V _
  have hVl:V.list.length=8:=rfl
  dsimp only
  by_cases hi32:i < 32
  ·have hdi:decide ((i:Int) < 32)=true:=decide_eq_true (by omega)
   repeat' (first|refine jx24 ?_|refine jy0 ?_ ?_|exact spF|refine spQ fun hq hq'=>?_|refine spN fun hn=>?_|fail)
   repeat' (first|refine jx22 ?_|refine jy0 ?_ ?_|exact spF|refine spQ fun hq hq'=>?_|refine spN fun hn=>?_|fail)
   apply ex2 (i+1)
   apply Exists.intro
   refine ⟨?_,⟨?_,?_⟩,.refl,?_⟩
   rotate_left 3
   (focus exact frA)
   ·dsimp only;omega
   ·dsimp only;omega
   ·dsimp only
    have e1:((i:Int) / 4).toNat=i / 4:=by omega
    have e2:((24:Int) - 8 * ((i:Int) % 4)).toNat=24 - 8 * (i % 4):=by omega
    rw [e1,e2,Int.toNat_natCast,digTo,← hds]
    rfl
  ·have hdi:decide ((i:Int) < 32)=false:=decide_eq_false (by omega)
   repeat' (first|refine jx24 ?_|refine jy0 ?_ ?_|exact spF|refine spQ fun hq hq'=>?_|refine spN fun hn=>?_|fail)
   refine rc1 rfl rfl rfl rfl rfl (by simpa using hdl) finL_p ?_
   rw [hds,show i=32 by omega,digTo_all,hsum,← hj',hv]
instance {b:List Nat} {ex:Bool}:PC Tryz.prog 192 [bytesN b ex] (b.length≤500000000∧okB b) (.a ((sum b).map bc)):=⟨fun k=>rsum_c b ex k.1 k.2⟩
end Go.Proofs.YtkgploeegbmofaaGreat.Sh
