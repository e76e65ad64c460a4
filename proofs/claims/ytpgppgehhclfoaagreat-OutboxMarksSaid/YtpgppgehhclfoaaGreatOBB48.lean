/- wire: a reader's whole numbers, texts and vectors; its end -/
import Derived.Test.YtpgppgehhclfoaaGreatOBB83
namespace Go.Proofs.YtpgppgehhclfoaaGreat.Wi
open Go Go.RowKit Go.Aw Go.Aw.Cart Go.Proofs.YtpgppgehhclfoaaGreat.Ca
set_option linter.unusedVariables false
set_option linter.unusedSimpArgs false
set_option maxRecDepth 8000
set_option maxHeartbeats 4000000
theorem lop_conv_a {C:Ctx} {o:Oper} {σ:St} {s d:TypeId} {x:Operand} {k k':IntKind} {n m:Int} {sz by_:Nat} {ks:TK} {sz' by':Nat} (ho:o.op=.convert s d x) (hT:TI C.P d (.int k') sz by_) (hS:TI C.P s ks sz' by') (hx:σ.look x=.p (.v (.int k n))) (hw:k'.wrap n=m) (hd:dOk C o.dst=true):LOp C o σ ⟨.p (.v (.int k' m)),[]⟩ (fun _=>false):=by
 have:=lop_conv ho hx hd;rwa [hw] at this
namespace W6
theorem lopC {C:Ctx} {o:Oper} {σ:St} {e:Eff} {ro:Nat→Bool} (h:LOp C o σ e ro:=by
  first|(apply lop_conv_a;(focus rfl);(focus exact inferInstance);(focus exact inferInstance);(focus rfl);(focus assumption);(focus rfl))|exact W5.lopC|fail):LOp C o σ e ro:=h
section steps
variable {C:Ctx} {ops:Array Oper} {o:Oper} {rest:List Oper} {K:St→Prop} {σ:St} {e:Eff} {ro:Nat→Bool} {W:List (Nat × Nat)} {i:Nat}
theorem rnC {d:Nat} (hg:Guard ops σ o true:=by first|exact gd_n rfl rfl|exact gd_t rfl rfl rfl rfl|exact gd_t rfl rfl rfl (by assumption)) (hd:o.dst=some d:=by rfl) (h:LOp C o σ e ro:=by exact lopC) (hk:RunN C ops rest K (e.app (some d) σ)):RunN C ops (o::rest) K σ:=rn_any hg hd h hk
theorem rkC {d:Nat} (hg:Guard ops σ o true:=by first|exact gd_n rfl rfl|exact gd_t rfl rfl rfl rfl|exact gd_t rfl rfl rfl (by assumption)) (hd':o.dst=some d:=by rfl) (hd:dOk C o.dst=true:=by rfl) (h:LOp C o σ e ro:=by exact lopC) (hro:∀ x,ro x=true→okObj ops W i x=true:=by first|exact fun _=>ro_none|exact ro_one rfl|exact ro_k1 rfl|exact ro_one (by kernel_rfl)|exact ro_k1 (by kernel_rfl)|exact ro_kIn (by decide)) (hob:∀ p∈e.obj,(i,p.1)∈W:=by first|exact ob_none|exact ob_one (by decide)|decide) (hk:RunK C ops W (i+1) rest K (e.app (some d) σ)):RunK C ops W i (o::rest) K σ:=rk_wr hg hd' hd h hro hob hk
end steps
end W6
open W6
abbrev rdOk (r:RS):Prop:=(∀ b∈r.1,b < 256)∧r.1.length≤1000000000
theorem Par.rd {α:Type} {P:RS→α × RS} (h:Par P) {r:RS} (hr:rdOk r):rdOk (P r).2:=⟨h.byte hr.1,Nat.le_trans (h.len r) hr.2⟩
theorem end_o (n:Nat) (r:RS):OCall Tryz.prog 106 [.o (.ptr 1000 n 0)] (memL [(1000,(n+1,some (rdM r)))]) (.p (.i (endS r))) (memL [(1000,(n+1,some (rdM r)))]):=by
 refine ocall_of1 Tryz.func106 rfl (fun w0 F S0 M0=>?_)
 unfold endS
 by_cases h:r.2=0
 ·have d1:decide (r.2≠0)=false:=decide_eq_false fun q=>q h
  rw [if_neg (fun q=>q h)]
  by_cases hl:0 < r.1.length
  ·have d2:decide (0 < (r.1.length:Int))=true:=decide_eq_true (by omega)
   rw [if_pos hl]
   as_aux_lemma=>
    repeat' (first|refine jx6 ?_|refine jy0 ?_ ?_|exact spF|refine spQ fun hq hq'=>?_|refine spN fun hn=>?_|fail)
    exact RetO.mk (ot1 rfl rfl finS_p rfl) ⟨.box finL_p,trivial⟩
  ·have d2:decide (0 < (r.1.length:Int))=false:=decide_eq_false (by omega)
   rw [if_neg hl]
   as_aux_lemma=>
    repeat' (first|refine jx6 ?_|refine jy0 ?_ ?_|exact spF|refine spQ fun hq hq'=>?_|refine spN fun hn=>?_|fail)
    exact RetO.mk (ot1 rfl rfl finS_p rfl) ⟨.box finL_p,trivial⟩
 ·have d1:decide (r.2≠0)=true:=decide_eq_true h
  rw [if_pos h]
  as_aux_lemma=>
   repeat' (first|refine jx6 ?_|refine jy0 ?_ ?_|exact spF|refine spQ fun hq hq'=>?_|refine spN fun hn=>?_|fail)
   exact RetO.mk (ot1 rfl rfl finS_p rfl) ⟨.box finL_p,trivial⟩
instance end_i {c g n:Nat} {r:RS}:OC Tryz.prog 106 [.o (.ptr c g 0)] [(c,(n,some (rdM r)))] [] (n=g+1) (.p (.i (endS r))) [(c,(n,some (rdM r)))]:=⟨fun h=>by subst h;exact (end_o g r).one c⟩
theorem rint_o (n:Nat) (r:RS) (hr:rdOk r):OCall Tryz.prog 150 [.o (.ptr 1000 n 0)] (memL [(1000,(n+1,some (rdM r)))]) (.p (.i (intS r).1)) (memL [(1000,(n+1,some (rdM (intS r).2)))]):=by
 refine ocall_of1 Tryz.func150 rfl (fun w0 F S0 M0=>?_)
 have hmd:md .u64=18446744073709551616:=rfl
 have hf:=numS_fit hr.1
 have eI:intS r=okS (unz (numS r).1) 0 (mustS (zOk (numS r).1) (numS r).2):=rfl
 rw [eI]
 haveI:∀ c g m:Nat,OC Tryz.prog 103 [.o (.ptr c g 0)] [(c,(m,some (rdM r)))] [] (m=g+1) (.p (.k .u64 ((numS r).1:Int))) [(c,(m,some (rdM (numS r).2)))]:=fun c g m=>⟨fun h=>by obtain rfl:=h;exact (rnum_o g r hr.1 hr.2).one c⟩
 generalize numS r=q at hf ⊢ this
 obtain ⟨x,r1⟩:=q
 dsimp only at hf ⊢ this
 have hand:(x % md .u64&&& 1 % md .u64)=x % 2:=by
  rw [hmd,show x % 18446744073709551616=x by omega,show 1 % 18446744073709551616=2 ^ 1 - 1 from rfl,Nat.and_two_pow_sub_one_eq_mod]
 have hK:x / 2 ^ (1:Int).toNat=x / 2:=rfl
 have hw:IntKind.i64.wrap ((x / 2 ^ (1:Int).toNat:Nat):Int)=((x / 2:Nat):Int):=by rw [hK];exact IntWalk.i64_in _ (by omega)
 have hcn : -9223372036854775808≤((x / 2:Nat):Int)∧((x / 2:Nat):Int)≤9223372036854775807:=by omega
 have fin:∀ r2:RS,okS (unz x) 0 r2=(if r2.2=0 then unz x else 0,r2):=fun _=>rfl
 rw [fin]
 unfold zOk
 by_cases he:x % 2=0
 ·have d1:decide (((x % md .u64&&& 1 % md .u64:Nat):Int)=0)=true:=decide_eq_true (by rw [hand];omega)
  have d4:decide (((x % md .u64&&& 1 % md .u64:Nat):Int)=1)=false:=decide_eq_false (by rw [hand];omega)
  have e2:decide (x / 2≤4611686018427387904)=decide (((x / 2 ^ (1:Int).toNat:Nat):Int)≤4611686018427387904):=by rw [hK];exact decide_eq_decide.2 (by omega)
  have eu:unz x=((x / 2:Nat):Int):=by unfold unz;rw [if_neg (by omega)]
  rw [if_pos he,e2,eu]
  by_cases hz:(mustS (decide (((x / 2 ^ (1:Int).toNat:Nat):Int)≤4611686018427387904)) r1).2=0
  ·have d2:decide ((mustS (decide (((x / 2 ^ (1:Int).toNat:Nat):Int)≤4611686018427387904)) r1).2≠0)=false:=decide_eq_false fun q=>q hz
   rw [if_pos hz]
   as_aux_lemma=>
    repeat' (first|refine jx5 ?_|refine jy0 ?_ ?_|exact spF|refine spQ fun hq hq'=>?_|refine spN fun hn=>?_|fail)
    exact RetO.mk (ot1 rfl rfl finS_p rfl) ⟨.box finL_p,trivial⟩
  ·have d2:decide ((mustS (decide (((x / 2 ^ (1:Int).toNat:Nat):Int)≤4611686018427387904)) r1).2≠0)=true:=decide_eq_true hz
   rw [if_neg hz]
   as_aux_lemma=>
    repeat' (first|refine jx5 ?_|refine jy0 ?_ ?_|exact spF|refine spQ fun hq hq'=>?_|refine spN fun hn=>?_|fail)
    exact RetO.mk (ot1 rfl rfl finS_p rfl) ⟨.box finL_p,trivial⟩
 ·have d1:decide (((x % md .u64&&& 1 % md .u64:Nat):Int)=0)=false:=decide_eq_false (by rw [hand];omega)
  have d4:decide (((x % md .u64&&& 1 % md .u64:Nat):Int)=1)=true:=decide_eq_true (by rw [hand];omega)
  have e2:decide (x / 2 < 4611686018427387904)=decide (((x / 2 ^ (1:Int).toNat:Nat):Int) < 4611686018427387904):=by rw [hK];exact decide_eq_decide.2 (by omega)
  have eu:unz x = -((x / 2:Nat):Int) - 1:=by unfold unz;rw [if_pos (by omega)]
  rw [if_neg he,e2,eu]
  by_cases hz:(mustS (decide (((x / 2 ^ (1:Int).toNat:Nat):Int) < 4611686018427387904)) r1).2=0
  ·have d2:decide ((mustS (decide (((x / 2 ^ (1:Int).toNat:Nat):Int) < 4611686018427387904)) r1).2≠0)=false:=decide_eq_false fun q=>q hz
   rw [if_pos hz]
   as_aux_lemma=>
    repeat' (first|refine jx5 ?_|refine jy0 ?_ ?_|exact spF|refine spQ fun hq hq'=>?_|refine spN fun hn=>?_|fail)
    exact RetO.mk (ot1 rfl rfl finS_p rfl) ⟨.box finL_p,trivial⟩
  ·have d2:decide ((mustS (decide (((x / 2 ^ (1:Int).toNat:Nat):Int) < 4611686018427387904)) r1).2≠0)=true:=decide_eq_true hz
   rw [if_neg hz]
   as_aux_lemma=>
    repeat' (first|refine jx5 ?_|refine jy0 ?_ ?_|exact spF|refine spQ fun hq hq'=>?_|refine spN fun hn=>?_|fail)
    exact RetO.mk (ot1 rfl rfl finS_p rfl) ⟨.box finL_p,trivial⟩
theorem small_nat (most:Int) (r:RS):∃ k:Nat,(smallS most r).1=k:=by
 unfold smallS
 dsimp only
 split
 ·exact ⟨_,rfl⟩
 ·exact ⟨0,rfl⟩
theorem rtext_o (n:Nat) (r:RS) (most:Int) (hm:most≤9223372036854775807) (hr:rdOk r):OCall Tryz.prog 102 [.o (.ptr 1000 n 0),.p (.i most)] (memL [(1000,(n+1,some (rdM r)))]) (.p (.sl 1 ((textS most r).1.map bR) false)) (memL [(1000,(n+1,some (rdM (textS most r).2)))]):=by
 refine ocall_of1 Tryz.func102 rfl (fun w0 F S0 M0=>?_)
 obtain ⟨k,hk⟩:=small_nat most r
 have e:textS most r=takeS k (smallS most r).2:=by
  show takeS (smallS most r).1.toNat (smallS most r).2=_
  rw [hk,Int.toNat_natCast]
 rw [e]
 haveI:∀ c g m:Nat,OC Tryz.prog 65 [.o (.ptr c g 0),.p (.i most)] [(c,(m,some (rdM r)))] [] (m=g+1) (.p (.i (k:Int))) [(c,(m,some (rdM (smallS most r).2)))]:=fun c g m=>⟨fun h=>by obtain rfl:=h;rw [← hk];exact (small_o g r most hm hr.1 hr.2).one c⟩
 have h2:=(par_small most).rd hr
 have h3:(takeS k (smallS most r).2).1.length≤1000000000:=Nat.le_trans take_len.2.1 h2.2
 generalize (smallS most r).2=r2 at h2 h3 ⊢ this
 as_aux_lemma=>
  repeat' (first|refine jx5 ?_|refine jy0 ?_ ?_|exact spF|refine spQ fun hq hq'=>?_|refine spN fun hn=>?_|fail)
  exact RetO.mk (ot1 rfl rfl finS_p rfl) ⟨.box finL_p,trivial⟩
theorem set_rep (A:List Int) (k:Nat) (n z:Int):(A++List.replicate (k+1) z).set A.length n=(A++[n])++List.replicate k z:=by
 rw [List.replicate_succ,List.set_append_right _ _ (Nat.le_refl _),Nat.sub_self,List.set_cons_zero,List.append_assoc];rfl
theorem rvec_o (n:Nat) (r:RS) (hr:rdOk r):OCall Tryz.prog 161 [.o (.ptr 1000 n 0)] (memL [(1000,(n+1,some (rdM r)))]) (vV (vecS r).1) (memL [(1000,(n+1,some (rdM (vecS r).2)))]):=by
 refine ocall_of1 Tryz.func161 rfl (fun w0 F S0 M0=>?_)
 have eV:vecS r=(if (allS numZ 8 r).2.2=0 then (allS numZ 8 r).1 else zeroV,(allS numZ 8 r).2):=rfl
 rw [eV]
 repeat' (first|refine jx5 ?_|refine jy0 ?_ ?_|exact spF|refine spQ fun hq hq'=>?_|refine spN fun hn=>?_|fail)
 refine aws_loopS [4,5,6,7,8,9,10,11,12] [1000,3] (fun (x:Nat × List Int × RS)=>[(5,.p (.i x.1))]) (fun x=>[(1000,(n+1,some (rdM x.2.2))),(3,(1,some (.box 141 (x.2.1.map fun n=>AC.p (.k .u64 n)))))])
  (fun x=>x.1≤8∧x.2.1=(allS numZ x.1 r).1++List.replicate (8 - x.1) 0∧x.2.2=(allS numZ x.1 r).2) (fun x=>8 - x.1) (0,zeroV,r) ⟨Nat.zero_le _,rfl,rfl⟩ (by exact knA) (by exact knA) ?_
 rintro ⟨i,u,r1⟩ β γ ⟨hi,hu,h1⟩
 dsimp only at hi hu h1 ⊢
 have la:=all_len numZ i r
 have lu:u.length=8:=by rw [hu,List.length_append,List.length_replicate,la];omega
 by_cases hi8:i < 8
 ·have d1:decide ((i:Int) < 8)=true:=decide_eq_true (by omega)
  have hr1:rdOk r1:=by rw [h1];exact (par_all par_numZ i).rd hr
  have hb1:=hr1.1
  have hl1:=hr1.2
  have hs1:u.set (i:Int).toNat ((numS r1).1:Int)=(allS numZ (i+1) r).1++List.replicate (8 - (i+1)) 0:=by
   rw [Int.toNat_natCast,hu,show 8 - i=(8 - (i+1))+1 by omega]
   have:=set_rep (allS numZ i r).1 (8 - (i+1)) ((numS r1).1:Int) 0
   rw [la] at this
   rw [this,h1]
   rfl
  have hs2:(numS r1).2=(allS numZ (i+1) r).2:=by rw [h1];rfl
  as_aux_lemma=>
   repeat' (first|refine jx5 ?_|refine jy0 ?_ ?_|exact spF|refine spQ fun hq hq'=>?_|refine spN fun hn=>?_|fail)
   exact ⟨(i+1,u.set (i:Int).toNat ((numS r1).1:Int),(numS r1).2),_,by dsimp only;omega,⟨by dsimp only;omega,hs1,hs2⟩,.refl,by exact frA⟩
 ·have d1:decide ((i:Int) < 8)=false:=decide_eq_false (by omega)
  obtain rfl:i=8:=by omega
  rw [← h1]
  have hu':u=(allS numZ 8 r).1:=by rw [hu];simp
  rw [← hu']
  by_cases hz:r1.2=0
  ·have d2:decide (r1.2≠0)=false:=decide_eq_false fun q=>q hz
   rw [if_pos hz]
   clear eV hu hu' h1 hz
   as_aux_lemma=>
    repeat' (first|refine jx5 ?_|refine jy0 ?_ ?_|exact spF|refine spQ fun hq hq'=>?_|refine spN fun hn=>?_|fail)
    exact RetO.mk (oc1 rfl rfl rfl rfl rfl (by rw [List.length_map];exact lu) finL_p rfl) ⟨.box finL_p,trivial⟩
  ·have d2:decide (r1.2≠0)=true:=decide_eq_true hz
   rw [if_neg hz]
   clear eV hu hu' h1 hz
   as_aux_lemma=>
    repeat' (first|refine jx5 ?_|refine jy0 ?_ ?_|exact spF|refine spQ fun hq hq'=>?_|refine spN fun hn=>?_|fail)
    exact RetO.mk (oc1 rfl rfl rfl rfl rfl rfl finL_p rfl) ⟨.box finL_p,trivial⟩
end Go.Proofs.YtpgppgehhclfoaaGreat.Wi
