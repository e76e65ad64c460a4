/- packs: lists written and read -/
import Derived.Test.YtpgppgehhclfoaaGreatOBB49
import Derived.Test.YtpgppgehhclfoaaGreatOBB55
namespace Go.Proofs.YtpgppgehhclfoaaGreat.Wi
open Go Go.RowKit Go.Aw Go.Aw.Cart Go.Proofs.YtpgppgehhclfoaaGreat.Ca
set_option linter.unusedVariables false
set_option linter.unusedSimpArgs false
set_option maxRecDepth 8000
set_option maxHeartbeats 4000000
namespace WA
theorem lopC {C:Ctx} {o:Oper} {σ:St} {e:Eff} {ro:Nat→Bool} (h:LOp C o σ e ro:=by
  first|(apply lop_cv_sb;(focus rfl);(focus exact inferInstance);(focus exact inferInstance);(focus exact inferInstance);(focus rfl);(focus assumption);(focus first|(simp only [maxLen,List.length_append,List.length_cons,List.length_nil,List.length_take,List.length_drop,List.length_map];omega)|omega);(focus rfl))|(apply lop_cv_bs;(focus rfl);(focus exact inferInstance);(focus exact inferInstance);(focus exact inferInstance);(focus rfl);(focus rfl))|exact W9.lopC|fail):LOp C o σ e ro:=h
section steps
variable {C:Ctx} {ops:Array Oper} {o:Oper} {rest:List Oper} {K:St→Prop} {σ:St} {e:Eff} {ro:Nat→Bool} {W:List (Nat × Nat)} {i:Nat}
theorem rnC {d:Nat} (hg:Guard ops σ o true:=by first|exact gd_n rfl rfl|exact gd_t rfl rfl rfl rfl|exact gd_t rfl rfl rfl (by assumption)) (hd:o.dst=some d:=by rfl) (h:LOp C o σ e ro:=by exact lopC) (hk:RunN C ops rest K (e.app (some d) σ)):RunN C ops (o::rest) K σ:=rn_any hg hd h hk
theorem rkC {d:Nat} (hg:Guard ops σ o true:=by first|exact gd_n rfl rfl|exact gd_t rfl rfl rfl rfl|exact gd_t rfl rfl rfl (by assumption)) (hd':o.dst=some d:=by rfl) (hd:dOk C o.dst=true:=by rfl) (h:LOp C o σ e ro:=by exact lopC) (hro:∀ x,ro x=true→okObj ops W i x=true:=by first|exact fun _=>ro_none|exact ro_one rfl|exact ro_k1 rfl|exact ro_one (by kernel_rfl)|exact ro_k1 (by kernel_rfl)|exact ro_kIn (by decide)) (hob:∀ p∈e.obj,(i,p.1)∈W:=by first|exact ob_none|exact ob_one (by decide)|decide) (hk:RunK C ops W (i+1) rest K (e.app (some d) σ)):RunK C ops W i (o::rest) K σ:=rk_wr hg hd' hd h hro hob hk
end steps
end WA
open WA
theorem kdB_len {k:Kd} (h:k.1.length≤20) (hv:vecOk k.2.1) (hr:rightF k.2.1 k.2.2=true):(kdB k).length≤20029:=by
 have h1:=cartB_len hv hr
 have h2:=numI_len ((k.1.length:Nat):Int)
 rw [numI_nat] at h2
 unfold kdB textB
 rw [List.length_append,List.length_append]
 have h3:(cartB k.2).length≤20000:=h1
 omega
theorem writeAll_ok (l:List Kd) (ex:Bool) (hk:keysF l=true) (hin:∀ k∈l,KdI k):PCall Tryz.prog 62 [.p (.sl 10 (l.map kR) ex)] (.tup [.one (.p (.sl 1 ((listB l).map bR) false)),.one (.p (.i 0))]):=by
 refine pcall_of Tryz.func62 rfl (fun w0 F S0 M0=>?_)
 have ho:=keys_iff.1 hk
 have hl:=ho.few
 haveI:PC Tryz.prog 76 [.p (.sl 10 (l.map kR) ex)] True (.p (.b true)):=⟨fun _=>by
  have:=pright_w l ex (by omega) hin (fun k hm=>by have:=(ok_iff.1 (ho.cart k hm)).few;omega)
  rwa [hk] at this⟩
 have d0:(!true)=false:=rfl
 have b1:l.length < 18446744073709551616:=by omega
 have hnl:=numI_len (l.length:Int)
 rw [numI_nat] at hnl
 have hB:listB l=numB l.length++l.flatMap kdB:=rfl
 rw [hB]
 repeat' (first|refine jx5 ?_|refine jy0 ?_ ?_|exact spF|refine spQ fun hq hq'=>?_|refine spN fun hn=>?_|fail)
 refine rn_says (says_wr (p:=11) rfl) rfl ?_
 repeat' (first|refine jx5 ?_|refine jy0 ?_ ?_|exact spF|refine spQ fun hq hq'=>?_|refine spN fun hn=>?_|fail)
 have e0:([]++numB l.length:List Nat)=numB l.length:=rfl
 rw [e0]
 generalize numB l.length=B0 at hnl ⊢
 refine aws_loopS [6,19,20,21,22,23,24,25,26,27,28,29,30,31,32] [11,6] (fun (x:Nat × List Nat × Option MO)=>[(19,.p (.i x.1))]) (fun x=>[(11,(1,some (.abs (wrA x.2.1)))),(6,(x.1,x.2.2))]) (fun x=>x.1≤l.length∧x.2.1=B0++(l.take x.1).flatMap kdB∧x.2.1.length≤9+20029 * x.1) (fun x=>l.length - x.1) (0,B0,none) ⟨Nat.zero_le _,by simp,by dsimp only;omega⟩ (by exact knA) (by exact knA) ?_
 rintro ⟨i,L,c6⟩ β γ ⟨hi,hL,hll⟩
 dsimp only at hi hL hll ⊢
 by_cases hil:i < l.length
 ·have d1:decide ((i:Int) < (l.length:Int))=true:=decide_eq_true (by omega)
  have ei:(i:Int).toNat=i:=Int.toNat_natCast i
  have hm:l.getD (i:Int).toNat default∈l:=by rw [ei,getD_at hil];exact List.getElem_mem _
  have okx:=(hin _ hm).key
  have vx:=(hin _ hm).vec
  have kx:=ho.key _ hm
  have rx:=ho.cart _ hm
  have hkl:=kdB_len kx vx rx
  have hft:=flat_take kdB hil
  rw [← ei] at hft
  have kx':(l.getD (i:Int).toNat default).1.length≤1000000:=by omega
  have g1:L.length≤900000000:=by omega
  have ht:(textB (l.getD (i:Int).toNat default).1).length≤29:=by
   have h2:=numI_len (((l.getD (i:Int).toNat default).1.length:Nat):Int)
   rw [numI_nat] at h2
   unfold textB
   rw [List.length_append];omega
  have g2:(L++textB (l.getD (i:Int).toNat default).1).length≤800000000:=by rw [List.length_append];omega
  have e2:L++textB (l.getD (i:Int).toNat default).1++cartB ((l.getD (i:Int).toNat default).2.1,(l.getD (i:Int).toNat default).2.2)=L++kdB (l.getD (i:Int).toNat default):=by rw [List.append_assoc];rfl
  have hn:L++textB (l.getD (i:Int).toNat default).1++cartB ((l.getD (i:Int).toNat default).2.1,(l.getD (i:Int).toNat default).2.2)=B0++(l.take (i+1)).flatMap kdB:=by
   rw [e2,hL]
   rw [show (i:Int).toNat=i from ei] at hft ⊢
   rw [hft,List.append_assoc]
  have g5:(L++textB (l.getD (i:Int).toNat default).1++cartB ((l.getD (i:Int).toNat default).2.1,(l.getD (i:Int).toNat default).2.2)).length≤9+20029 * (i+1):=by rw [e2,List.length_append];omega
  clear hft hL e2 hkl hin ho kx
  as_aux_lemma=>
   repeat' (first|refine jx5 ?_|refine jy0 ?_ ?_|exact spF|refine spQ fun hq hq'=>?_|refine spN fun hn=>?_|fail)
   exact ⟨(i+1,_,_),_,by dsimp only;omega,⟨by dsimp only;omega,hn,g5⟩,.refl,by exact frA⟩
 ·have d1:decide ((i:Int) < (l.length:Int))=false:=decide_eq_false (by omega)
  rw [List.take_of_length_le (by omega)] at hL
  rw [← hL]
  clear hL hin ho
  have hl9:L.length≤1000000000:=by omega
  as_aux_lemma=>
   repeat' (first|refine jx5 ?_|refine jy0 ?_ ?_|exact spF|refine spQ fun hq hq'=>?_|refine spN fun hn=>?_|fail)
   exact rt2 rfl rfl finS_p rfl finS_p rfl
end Go.Proofs.YtpgppgehhclfoaaGreat.Wi
namespace Go.Proofs.YtpgppgehhclfoaaGreat.Wi
open Go Go.RowKit Go.Aw Go.Aw.Cart Go.Proofs.YtpgppgehhclfoaaGreat.Ca
set_option linter.unusedVariables false
set_option linter.unusedSimpArgs false
set_option maxRecDepth 8000
set_option maxHeartbeats 4000000
open W9
end Go.Proofs.YtpgppgehhclfoaaGreat.Wi
namespace Go.Proofs.YtpgppgehhclfoaaGreat.Wi
open Go Go.RowKit Go.Aw Go.Aw.Cart Go.Proofs.YtpgppgehhclfoaaGreat.Ca
set_option linter.unusedVariables false
set_option linter.unusedSimpArgs false
set_option maxRecDepth 8000
set_option maxHeartbeats 4000000
namespace PW9
theorem lopC {C:Ctx} {o:Oper} {σ:St} {e:Eff} {ro:Nat→Bool} (h:LOp C o σ e ro:=by
  first|(apply gBin;(focus rfl);apply lop_nes;(focus rfl);(focus exact inferInstance);(focus rfl);(focus rfl);(focus assumption);(focus assumption);(focus rfl))|exact W9.lopC|fail):LOp C o σ e ro:=h
section steps
variable {C:Ctx} {ops:Array Oper} {o:Oper} {rest:List Oper} {K:St→Prop} {σ:St} {e:Eff} {ro:Nat→Bool} {W:List (Nat × Nat)} {i:Nat}
theorem rnC {d:Nat} (hg:Guard ops σ o true:=by first|exact gd_n rfl rfl|exact gd_t rfl rfl rfl rfl|exact gd_t rfl rfl rfl (by assumption)) (hd:o.dst=some d:=by rfl) (h:LOp C o σ e ro:=by exact lopC) (hk:RunN C ops rest K (e.app (some d) σ)):RunN C ops (o::rest) K σ:=rn_any hg hd h hk
theorem rkC {d:Nat} (hg:Guard ops σ o true:=by first|exact gd_n rfl rfl|exact gd_t rfl rfl rfl rfl|exact gd_t rfl rfl rfl (by assumption)) (hd':o.dst=some d:=by rfl) (hd:dOk C o.dst=true:=by rfl) (h:LOp C o σ e ro:=by exact lopC) (hro:∀ x,ro x=true→okObj ops W i x=true:=by first|exact fun _=>ro_none|exact ro_one rfl|exact ro_k1 rfl|exact ro_one (by kernel_rfl)|exact ro_k1 (by kernel_rfl)|exact ro_kIn (by decide)) (hob:∀ p∈e.obj,(i,p.1)∈W:=by first|exact ob_none|exact ob_one (by decide)|decide) (hk:RunK C ops W (i+1) rest K (e.app (some d) σ)):RunK C ops W i (o::rest) K σ:=rk_wr hg hd' hd h hro hob hk
end steps
end PW9
end Go.Proofs.YtpgppgehhclfoaaGreat.Wi
