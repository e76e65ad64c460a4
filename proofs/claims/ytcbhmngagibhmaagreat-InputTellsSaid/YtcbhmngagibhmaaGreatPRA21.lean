/- a list as the reference's -/
import Derived.Test.YtcbhmngagibhmaaGreatPRA19
import Derived.Test.YtcbhmngagibhmaaGreatPRA13
import Derived.Test.YtcbhmngagibhmaaGreatPRA23
import Derived.Test.YtcbhmngagibhmaaGreatPRA11
import Derived.Test.YtcbhmngagibhmaaGreatPRA20
namespace Go.Proofs.YtcbhmngagibhmaaGreat.Wi
open Go Go.RowKit Go.Aw Go.Aw.Cart Go.Proofs.YtcbhmngagibhmaaGreat.Ca
set_option linter.unusedVariables false
set_option linter.unusedSimpArgs false
set_option maxRecDepth 8000
set_option maxHeartbeats 4000000
open W9
theorem asK_w (l:List Kd) (ex:Bool) (hl:l.length≤100000) (hin:∀ k∈l,KdI k) (hf:∀ k∈l,k.2.2.length≤1000000):PCall Tryz.prog 60 [.p (.sl 10 (l.map kR) ex)] (.p (.sl 10 (l.map kR) false)):=by
 refine pcall_of Tryz.func60 rfl (fun w0 F S0 M0=>?_)
 repeat' (first|refine jx5 ?_|refine jy0 ?_ ?_|exact spF|refine spQ fun hq hq'=>?_|refine spN fun hn=>?_|fail)
 refine aws_says (says_nil (t:=3) (o:=901) (ty:=218) (es:=10) rfl rfl (by decide)) ?_
 refine aws_loopS [3,4,5,6,7,8,9,10,11,12,13,14,15,16,17,18,19,20,21,22,23,24,25] [901] (fun (x:Nat × List Kd)=>[(4,.p (.i x.1)),(3,.o (.osl 901 x.1 10 0 x.2.length))]) (fun x=>[(901,(x.1+1,some (.buf 218 10 (x.2.map kR))))])
  (fun x=>x.1≤l.length∧x.2=l.take x.1) (fun x=>l.length - x.1) (0,[]) ⟨Nat.zero_le _,rfl⟩ (by exact knA) (by exact knA) ?_
 rintro ⟨i,m⟩ β γ ⟨hi,hm⟩
 dsimp only at hi hm ⊢
 have hml:m.length=i:=by rw [hm,List.length_take];omega
 by_cases hil:i < l.length
 ·have hd:decide ((i:Int) < (l.length:Int))=true:=decide_eq_true (by omega)
  have ei:(i:Int).toNat=i:=Int.toNat_natCast i
  have hk:l.getD (i:Int).toNat default∈l:=by rw [ei,getD_at hil];exact List.getElem_mem _
  have ca:=Cr.as_r (l.getD (i:Int).toNat default).2.1 (l.getD (i:Int).toNat default).2.2 false (hf _ hk)
  haveI:PC Tryz.prog 141 [cV (l.getD (i:Int).toNat default).2.1 (l.getD (i:Int).toNat default).2.2 false] True (cV (l.getD (i:Int).toNat default).2.1 (l.getD (i:Int).toNat default).2.2 false):=⟨fun _=>ca⟩
  have hn:m++[l.getD (i:Int).toNat default]=l.take (i+1):=by rw [hm,take_get' hil,ei]
  clear ca hk hf hin hm
  repeat' (first|refine jx5 ?_|refine jy0 ?_ ?_|exact spF|refine spQ fun hq hq'=>?_|refine spN fun hn=>?_|fail)
  refine aws_draws [(14,901)] mixed (by kernel_rfl) ?_
  repeat' (first|refine jx7 ?_|refine jy1 ?_ ?_|exact spF|refine spQ fun hq hq'=>?_|fail)
  as_aux_lemma=>
   repeat' (first|refine jx5 ?_|refine jy0 ?_ ?_|exact spF|refine spQ fun hq hq'=>?_|refine spN fun hn=>?_|fail)
   exact ⟨(i+1,m++[l.getD (i:Int).toNat default]),_,by dsimp only;omega,⟨by dsimp only;omega,hn⟩,.refl,by exact frA⟩
 ·have hd:decide ((i:Int) < (l.length:Int))=false:=decide_eq_false (by omega)
  have hm':l=m:=by rw [hm,List.take_of_length_le (by omega)]
  rw [hm']
  rw [hm'] at hd
  clear hm' hm
  as_aux_lemma=>
   repeat' (first|refine jx5 ?_|refine jy0 ?_ ?_|exact spF|refine spQ fun hq hq'=>?_|refine spN fun hn=>?_|fail)
   exact rt1 rfl rfl (.one (finC_map rfl rfl rfl rfl)) rfl
end Go.Proofs.YtcbhmngagibhmaaGreat.Wi
namespace Go.Proofs.YtcbhmngagibhmaaGreat.Wi
open Go Go.RowKit Go.Aw Go.Aw.Cart Go.Proofs.YtcbhmngagibhmaaGreat.Ca
set_option linter.unusedVariables false
set_option linter.unusedSimpArgs false
set_option maxRecDepth 8000
set_option maxHeartbeats 4000000
namespace PW9
theorem lopC {C:Ctx} {o:Oper} {σ:St} {e:Eff} {ro:Nat→Bool} (h:LOp C o σ e ro:=by
  first|(apply gBin;(focus rfl);apply lop_nes;(focus rfl);(focus exact inferInstance);(focus rfl);(focus rfl);(focus assumption);(focus assumption);(focus rfl))|exact W9.lopC|fail):LOp C o σ e ro:=h
section steps
variable {C:Ctx} {ops:Array Oper} {o:Oper} {rest:List Oper} {K:St→Prop} {σ:St} {e:Eff} {ro:Nat→Bool} {W:List (Nat × Nat)} {i:Nat}
theorem rnC {d:Nat} (hg:Guard ops σ o true:=by first|exact gd_n rfl rfl|exact gd_t rfl rfl rfl rfl|exact gd_t rfl rfl rfl (by assumption)) (hd:o.dst=some d:=by rfl) (h:LOp C o σ e ro:=by exact lopC) (hk:RunN C ops rest K (e.app (some d) σ)):RunN C ops (o::rest) K σ:=rn_any hg hd h hk
theorem rkC {d:Nat} (hg:Guard ops σ o true:=by first|exact gd_n rfl rfl|exact gd_t rfl rfl rfl rfl|exact gd_t rfl rfl rfl (by assumption)) (hd':o.dst=some d:=by rfl) (hd:dOk C o.dst=true:=by rfl) (h:LOp C o σ e ro:=by exact lopC) (hro:∀ x,ro x=true→okObj ops W i x=true:=by first|exact fun _=>ro_none|exact ro_one rfl|exact ro_k1 rfl|exact ro_one (by kernel_rfl)|exact ro_k1 (by kernel_rfl)|exact ro_kIn (by decide)) (hob:∀ p∈e.obj,(i,p.1)∈W:=by first|exact ob_none|exact ob_one (by decide)|decide) (hk:RunK C ops W (i+1) rest K (e.app (some d) σ)):RunK C ops W i (o::rest) K σ:=rk_wr hg hd' hd h hro hob hk
end steps
end PW9
end Go.Proofs.YtcbhmngagibhmaaGreat.Wi
namespace Go.Aw
open Go Go.RowKit
set_option linter.unusedVariables false
set_option linter.unusedSimpArgs false
end Go.Aw
namespace Go.Proofs.YtcbhmngagibhmaaGreat.Wi
open Go Go.RowKit Go.Aw Go.Aw.Cart Go.Proofs.YtcbhmngagibhmaaGreat.Ca
set_option linter.unusedVariables false
set_option linter.unusedSimpArgs false
set_option maxRecDepth 8000
set_option maxHeartbeats 4000000
namespace WE
theorem lopC {C:Ctx} {o:Oper} {σ:St} {e:Eff} {ro:Nat→Bool} (h:LOp C o σ e ro:=by
  first|(apply lop_lend2;(focus rfl);(focus exact inferInstance);(focus rfl);(focus rfl);(focus rfl);(focus exact (List.length_map ..).symm);(focus first|exact lk_m1 rfl|exact lk_m2 rfl|exact lk_m3 rfl|exact lk_o rfl|exact lk_a2 rfl|exact lk_a3 rfl|exact lk_a4 rfl|exact lk_a1 rfl|exact lk_a5 rfl|exact lk_a6 rfl|exact lk_a7 rfl|exact lk_a8 rfl|exact lk_a rfl);(focus exact inferInstance);(focus exact inferInstance);(focus first|exact True.intro|assumption|rfl|omega|((repeat' (first|assumption|refine And.intro ?_ ?_|omega|rfl));done)|fail);(focus exact RV.v);(focus rfl))|exact WD.lopC|fail):LOp C o σ e ro:=h
section steps
variable {C:Ctx} {ops:Array Oper} {o:Oper} {rest:List Oper} {K:St→Prop} {σ:St} {e:Eff} {ro:Nat→Bool} {W:List (Nat × Nat)} {i:Nat}
theorem rnC {d:Nat} (hg:Guard ops σ o true:=by first|exact gd_n rfl rfl|exact gd_t rfl rfl rfl rfl|exact gd_t rfl rfl rfl (by assumption)) (hd:o.dst=some d:=by rfl) (h:LOp C o σ e ro:=by exact lopC) (hk:RunN C ops rest K (e.app (some d) σ)):RunN C ops (o::rest) K σ:=rn_any hg hd h hk
theorem rkC {d:Nat} (hg:Guard ops σ o true:=by first|exact gd_n rfl rfl|exact gd_t rfl rfl rfl rfl|exact gd_t rfl rfl rfl (by assumption)) (hd':o.dst=some d:=by rfl) (hd:dOk C o.dst=true:=by rfl) (h:LOp C o σ e ro:=by exact lopC) (hro:∀ x,ro x=true→okObj ops W i x=true:=by first|exact fun _=>ro_none|exact ro_one rfl|exact ro_k1 rfl|exact ro_one (by kernel_rfl)|exact ro_k1 (by kernel_rfl)|exact ro_kIn (by decide)) (hob:∀ p∈e.obj,(i,p.1)∈W:=by first|exact ob_none|exact ob_one (by decide)|decide) (hk:RunK C ops W (i+1) rest K (e.app (some d) σ)):RunK C ops W i (o::rest) K σ:=rk_wr hg hd' hd h hro hob hk
end steps
end WE
open WE
end Go.Proofs.YtcbhmngagibhmaaGreat.Wi
namespace Go.Aw
open Go Go.RowKit
end Go.Aw
namespace Go.Proofs.YtcbhmngagibhmaaGreat.Wi
open Go Go.RowKit Go.Aw Go.Aw.Cart Go.Proofs.YtcbhmngagibhmaaGreat.Ca
set_option linter.unusedVariables false
set_option linter.unusedSimpArgs false
set_option maxRecDepth 8000
set_option maxHeartbeats 4000000
open WE
abbrev cA (ex:Bool):List AC:=[.p (.k .u64 1),.p (.k .u64 0),.p (.k .u64 0),.p (.k .u64 0),.p (.k .u64 0),.p (.k .u64 0),.p (.k .u64 0),.p (.k .u64 0),.p (.sl 4 [[.i 5,.i 1,.k .u64 1,.i 2]] ex)]
abbrev cB (ex:Bool):List AC:=[.p (.k .u64 0),.p (.k .u64 0),.p (.k .u64 0),.p (.k .u64 0),.p (.k .u64 0),.p (.k .u64 0),.p (.k .u64 0),.p (.k .u64 0),.p (.sl 4 [[.i 5,.i 1,.k .u64 1,.i 2]] ex)]
theorem ok98:okB [98]:=by intro c hc;simp at hc;omega
theorem ok97:okB [97]:=by intro c hc;simp at hc;omega
theorem kdi10:∀ k∈l10,KdI k:=by
 intro k hk
 simp only [l10,List.mem_cons,List.not_mem_nil,or_false] at hk
 rcases hk with rfl|rfl
 ·exact ⟨ok97,by decide,zeroV_ok,by decide⟩
 ·exact ⟨ok98,by decide,c10_vec,by decide⟩
theorem s1 (L2:List Kd) (S:List Nat) (hL2:L2=l10) (hS:S=listB l10):PCall Tryz.prog 63 [.p (.sl 10 (L2.map kR) false)] (.tup [.one (.p (.sl 1 (S.map bR) false)),.one (.p (.i 0))]):=by
 rw [hL2,hS];exact writeAll_ok l10 false (keys_iff.2 l10_ok) kdi10
theorem s2 (L2:List Kd) (S:List Nat) (hL2:L2=l10) (hS:S=listB l10) (hb:okB (listB l10)) (hl:(listB l10).length≤1000):PCall Tryz.prog 69 [.p (.sl 1 (S.map bR) false)] (.tup [.one (.p (.sl 10 (L2.map kR) false)),.one (.p (.i 0))]):=by
 have h:=readAll_w (listB l10) false hb (by omega)
 rw [readL_back l10_ok fun k hk=>(kdi10 k hk).vec] at h
 rw [hL2,hS];exact h
end Go.Proofs.YtcbhmngagibhmaaGreat.Wi
namespace Go.Proofs.YtcbhmngagibhmaaGreat.Wi
open Go Go.RowKit Go.Aw Go.Aw.Cart Go.Proofs.YtcbhmngagibhmaaGreat.Ca
set_option linter.unusedVariables false
set_option linter.unusedSimpArgs false
set_option maxRecDepth 8000
set_option maxHeartbeats 4000000
open WE
end Go.Proofs.YtcbhmngagibhmaaGreat.Wi
namespace Go.Proofs.YtcbhmngagibhmaaGreat.Wi
open Go Go.RowKit Go.Aw Go.Aw.Cart Go.Aw.Tree Go.Proofs.YtcbhmngagibhmaaGreat.Ca Go.Proofs.YtcbhmngagibhmaaGreat.Rg
set_option linter.unusedVariables false
set_option linter.unusedSimpArgs false
def nodesR (m:Msg):Bool:=decide (1≤m.frm∧m.frm≤8∧1≤m.to∧m.to≤8∧m.frm≠m.to)
def headR (m:Msg):Bool:=if m.kind=7 then decide (m.ses=0∧m.part=0) else decide (1≤m.ses∧m.ses≤1099511627776∧0≤m.part∧m.part≤7)
def zeR (m:Msg):Bool:=decide (m.dig=zeroD)
def plR (m:Msg):Bool:=decide ((m.pls.length:Int)=0)
def dgR (m:Msg):Bool:=decide ((m.dgs.length:Int)=0)
def ctR (m:Msg):Bool:=decide ((m.kds.length:Int)=0)
theorem len0 {α:Type} {l:List α}:(l.length:Int)=0↔l=[]:=by
 rw [show ((l.length:Int)=0)↔l.length=0 by omega,List.length_eq_zero_iff]
def bodyR (m:Msg):Bool:=
 if m.kind=1 then plR m&&(dgR m&&ctR m)
 else if m.kind=2 then zeR m&&(dgR m&&(ctR m&&lvlF m.pls 1))
 else if m.kind=3∨m.kind=6 then zeR m&&(dgR m&&(lvlF m.pls 2&&withinM m))
 else if m.kind=4 then zeR m&&(plR m&&(dgR m&&ctR m))
 else if m.kind=5 then zeR m&&(ctR m&&((lvlF m.pls 0||lvlF m.pls 1)&&decide ((m.dgs.length:Int)=4 * m.pls.length)))
 else if m.kind=7 then zeR m&&(plR m&&(dgR m&&(decide ((m.kds.length:Int)=1)&&(keysF m.kds&&keyR (m.kds.getD 0 default).1))))
 else false
theorem own_iff (m:Msg):sameM m (ownM m)=true↔(m.kind=7→m.ses=0∧m.part=0)∧(m.kind≠1→m.dig=zeroD)∧(¬ (m.kind=2∨m.kind=3∨m.kind=6∨m.kind=5)→m.pls=[])∧(m.kind≠5→m.dgs=[])∧(¬ (m.kind=3∨m.kind=6∨m.kind=7)→m.kds=[]):=by
 rw [sameM_iff]
 obtain ⟨k,f,t,s,p,d,P,G,K⟩:=m
 unfold ownM
 rw [Msg.mk.injEq]
 dsimp only
 constructor
 ·rintro ⟨- , - , -,h4,h5,h6,h7,h8,h9⟩
  refine ⟨fun h=>?_,fun h=>?_,fun h=>?_,fun h=>?_,fun h=>?_⟩
  ·rw [if_pos h] at h4 h5;exact ⟨h4,h5⟩
  ·rw [if_neg h] at h6;exact h6
  ·rw [if_neg h] at h7;exact h7
  ·rw [if_neg h] at h8;exact h8
  ·rw [if_neg h] at h9;exact h9
 ·rintro ⟨h1,h2,h3,h4,h5⟩
  refine ⟨rfl,rfl,rfl,?_,?_,?_,?_,?_,?_⟩
  ·split
   ·rename_i q;exact (h1 q).1
   ·rfl
  ·split
   ·rename_i q;exact (h1 q).2
   ·rfl
  ·split
   ·rfl
   ·rename_i q;exact h2 q
  ·split
   ·rfl
   ·rename_i q;exact h3 q
  ·split
   ·rfl
   ·rename_i q;exact h4 q
  ·split
   ·rfl
   ·rename_i q;exact h5 q
theorem ses_iff (s p:Int):sesF s p=decide (1≤s∧s≤1099511627776∧0≤p∧p≤7):=by
 unfold sesF
 rw [Bool.eq_iff_iff]
 simp only [Bool.and_eq_true,decide_eq_true_iff]
 omega
theorem right_ref (m:Msg):rightM m=(nodesR m&&(headR m&&bodyR m)):=by
 rw [Bool.eq_iff_iff]
 unfold rightM
 rw [ses_iff]
 unfold nodesR headR bodyM bodyR zeR plR dgR ctR
 simp only [Bool.and_eq_true,own_iff,Bool.or_eq_true,decide_eq_true_iff,len0]
 by_cases k1:m.kind=1
 ·simp only [k1]
  simp
  constructor
  ·rintro ⟨⟨a1,a2,a3,a4⟩,⟨b1,b2⟩,⟨c1,c2⟩,c3,c4,c5,c6⟩
   exact ⟨⟨b1,b2,c1,c2,c3⟩,⟨a1,a2,a3,a4⟩,c4,c5,c6⟩
  ·rintro ⟨⟨b1,b2,c1,c2,c3⟩,⟨a1,a2,a3,a4⟩,c4,c5,c6⟩
   exact ⟨⟨a1,a2,a3,a4⟩,⟨b1,b2⟩,⟨c1,c2⟩,c3,c4,c5,c6⟩
 by_cases k2:m.kind=2
 ·simp only [k2]
  simp
  constructor
  ·rintro ⟨l,⟨a1,a2,a3,a4⟩,⟨b1,b2⟩,⟨c1,c2⟩,c3,c4,c5,c6⟩
   exact ⟨⟨b1,b2,c1,c2,c3⟩,⟨a1,a2,a3,a4⟩,c4,c5,c6,l⟩
  ·rintro ⟨⟨b1,b2,c1,c2,c3⟩,⟨a1,a2,a3,a4⟩,c4,c5,c6,l⟩
   exact ⟨l,⟨a1,a2,a3,a4⟩,⟨b1,b2⟩,⟨c1,c2⟩,c3,c4,c5,c6⟩
 by_cases k3:m.kind=3∨m.kind=6
 ·have e7:m.kind≠7:=by omega
  have e4:m.kind≠4:=by omega
  have e5:m.kind≠5:=by omega
  rw [if_neg (by omega),if_neg k2,if_pos k3,if_neg k1,if_neg k2,if_pos k3,if_neg e7]
  simp only [Bool.and_eq_true,decide_eq_true_iff,len0]
  constructor
  ·rintro ⟨⟨l,w⟩,s,b,c,d,e,f,g,h,i⟩
   exact ⟨⟨b.1,b.2,c.1,c.2,d⟩,s.resolve_left e7,f k1,h e5,l,w⟩
  ·rintro ⟨⟨b1,b2,c1,c2,c3⟩,a,c4,c5,l,w⟩
   exact ⟨⟨l,w⟩,.inr a,⟨b1,b2⟩,⟨c1,c2⟩,c3,fun q=>absurd q e7,fun _=>c4,fun q=>absurd (by omega) q,fun _=>c5,fun q=>absurd (by omega) q⟩
 by_cases k4:m.kind=4
 ·simp only [k4]
  simp
  constructor
  ·rintro ⟨⟨a1,a2,a3,a4⟩,⟨b1,b2⟩,⟨c1,c2⟩,c3,c4,c5,c6,c7⟩
   exact ⟨⟨b1,b2,c1,c2,c3⟩,⟨a1,a2,a3,a4⟩,c4,c5,c6,c7⟩
  ·rintro ⟨⟨b1,b2,c1,c2,c3⟩,⟨a1,a2,a3,a4⟩,c4,c5,c6,c7⟩
   exact ⟨⟨a1,a2,a3,a4⟩,⟨b1,b2⟩,⟨c1,c2⟩,c3,c4,c5,c6,c7⟩
 by_cases k5:m.kind=5
 ·simp only [k5]
  simp
  constructor
  ·rintro ⟨⟨l,e⟩,⟨a1,a2,a3,a4⟩,⟨b1,b2⟩,⟨c1,c2⟩,c3,c4,c5⟩
   exact ⟨⟨b1,b2,c1,c2,c3⟩,⟨a1,a2,a3,a4⟩,c4,c5,l,e⟩
  ·rintro ⟨⟨b1,b2,c1,c2,c3⟩,⟨a1,a2,a3,a4⟩,c4,c5,l,e⟩
   exact ⟨⟨l,e⟩,⟨a1,a2,a3,a4⟩,⟨b1,b2⟩,⟨c1,c2⟩,c3,c4,c5⟩
 by_cases k7:m.kind=7
 ·simp only [k7]
  simp
  constructor
  ·rintro ⟨⟨l,e,g⟩,⟨b1,b2⟩,⟨c1,c2⟩,c3,⟨a1,a2⟩,c4,c5,c6⟩
   exact ⟨⟨b1,b2,c1,c2,c3⟩,⟨a1,a2⟩,c4,c5,c6,l,e,g⟩
  ·rintro ⟨⟨b1,b2,c1,c2,c3⟩,⟨a1,a2⟩,c4,c5,c6,l,e,g⟩
   exact ⟨⟨l,e,g⟩,⟨b1,b2⟩,⟨c1,c2⟩,c3,⟨a1,a2⟩,c4,c5,c6⟩
 ·rw [if_neg (by omega),if_neg k2,if_neg k3,if_neg k5,if_neg k7,if_neg k1,if_neg k2,if_neg k3,if_neg k4,if_neg k5,if_neg k7,if_neg k7]
  constructor
  ·rintro ⟨h , -⟩;cases h
  ·rintro ⟨- , -,h⟩;cases h
end Go.Proofs.YtcbhmngagibhmaaGreat.Wi
