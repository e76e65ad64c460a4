/- backoffs: one backoff -/
import Derived.Test.YtkgploeegbmofaaGreatSEA20
import Derived.Test.YtkgploeegbmofaaGreatSEA01
import Derived.Test.YtkgploeegbmofaaGreatSEA03
import Derived.Test.YtkgploeegbmofaaGreatSEA15
import Derived.Test.YtkgploeegbmofaaGreatSEA22
import Derived.Test.YtkgploeegbmofaaGreatSEA18
namespace Go.Proofs.YtkgploeegbmofaaGreat.Bo
open Go Go.RowKit Go.Aw Go.Aw.Bo
set_option linter.unusedVariables false
set_option linter.unusedSimpArgs false
set_option maxRecDepth 8000
set_option maxHeartbeats 4000000
abbrev stL (b c m t:Int):List AC:=[.p (.i b),.p (.i c),.p (.i m),.p (.i t)]
abbrev stV (b c m t:Int):AV:=.a (stL b c m t)
def win (n a b:Int):Bool:=decide (a≤n∧n≤b)
theorem within_w (n a b:Int):PCall Tryz.prog 99 [.p (.i n),.p (.i a),.p (.i b)] (.p (.b (win n a b))):=by
 refine pcall_of Tryz.func99 rfl (fun w0 F S0 M0=>?_)
 unfold win
 repeat' (first|refine jx0 ?_|refine jy0 ?_ ?_|exact spF|refine spQ fun hq hq'=>?_|refine spN fun hn=>?_|fail)
 all_goals refine rt1 rfl rfl finS_p (rb ?_)
 all_goals first|exact decide_eq_decide.2 (by omega)|exact decide_eq_true (by omega)|exact decide_eq_false (by omega)
instance {n a b:Int}:PC Tryz.prog 99 [.p (.i n),.p (.i a),.p (.i b)] True (.p (.b (win n a b))):=⟨fun _=>within_w n a b⟩
theorem right_w (b c m t:Int):PCall Tryz.prog 54 [stV b c m t] (.p (.b (rightB b c m t))):=by
 refine pcall_of Tryz.func54 rfl (fun w0 F S0 M0=>?_)
 unfold rightB
 cases h1:win b 1 1000 with
 | false=>
  repeat' (first|refine jx0 ?_|refine jy0 ?_ ?_|exact spF|refine spQ fun hq hq'=>?_|refine spN fun hn=>?_|fail)
  refine rt1 rfl rfl finS_p (rb ?_)
  have:=of_decide_eq_false h1
  exact decide_eq_false (by omega)
 | true=>
  have k1:=of_decide_eq_true h1
  cases h2:win c b 1048576 with
  | false=>
   repeat' (first|refine jx0 ?_|refine jy0 ?_ ?_|exact spF|refine spQ fun hq hq'=>?_|refine spN fun hn=>?_|fail)
   refine rt1 rfl rfl finS_p (rb ?_)
   have:=of_decide_eq_false h2
   exact decide_eq_false (by omega)
  | true=>
   have k2:=of_decide_eq_true h2
   cases h3:win m 1 1073741824 with
   | false=>
    repeat' (first|refine jx0 ?_|refine jy0 ?_ ?_|exact spF|refine spQ fun hq hq'=>?_|refine spN fun hn=>?_|fail)
    refine rt1 rfl rfl finS_p (rb ?_)
    have:=of_decide_eq_false h3
    exact decide_eq_false (by omega)
   | true=>
    have k3:=of_decide_eq_true h3
    repeat' (first|refine jx0 ?_|refine jy0 ?_ ?_|exact spF|refine spQ fun hq hq'=>?_|refine spN fun hn=>?_|fail)
    refine rt1 rfl rfl finS_p (rb ?_)
    exact decide_eq_decide.2 (by omega)
instance {b c m t:Int}:PC Tryz.prog 54 [stV b c m t] True (.p (.b (rightB b c m t))):=⟨fun _=>right_w b c m t⟩
theorem gap_w (b c m t:Int) (h:rightB b c m t=true):PCall Tryz.prog 59 [stV b c m t] (.p (.i (gapF b c t.toNat))):=by
 refine pcall_of Tryz.func59 rfl (fun w0 F S0 M0=>?_)
 have hn:(!rightB b c m t)=false:=by rw [h];rfl
 have hr:=right_of h
 repeat' (first|refine jx0 ?_|refine jy0 ?_ ?_|exact spF|refine spQ fun hq hq'=>?_|refine spN fun hn=>?_|fail)
 refine aws_loopS [3,4,10,11,12,13,14,15,16,17,18,19,20,21,22,23] [] (fun (i:Nat)=>[(3,.p (.i (pw b i))),(4,.p (.i i))]) (fun _=>[]) (fun i=>(i:Int)≤t∧pw b i≤2 * c) (fun i=>t.toNat - i) 0 ⟨by omega,by show b≤2 * c;omega⟩ (by exact knA) (by exact knA) ?_
 rintro i β γ ⟨hi,hp⟩
 have hpp:=pw_pos (b:=b) (by omega) i
 by_cases hit:(i:Int) < t
 ·have hd:decide ((i:Int) < t)=true:=decide_eq_true hit
  by_cases hpc:pw b i < c
  ·have hd2:decide (pw b i < c)=true:=decide_eq_true hpc
   repeat' (first|refine jx0 ?_|refine jy0 ?_ ?_|exact spF|refine spQ fun hq hq'=>?_|refine spN fun hn=>?_|fail)
   exact ⟨i+1,_,by omega,⟨by omega,by rw [pw];omega⟩,.refl,by exact frA⟩
  ·have hd2:decide (pw b i < c)=false:=decide_eq_false hpc
   have hm:=pw_mono (b:=b) (by omega) (i:=i) (j:=t.toNat) (by omega)
   repeat' (first|refine jx0 ?_|refine jy0 ?_ ?_|exact spF|refine spQ fun hq hq'=>?_|refine spN fun hn=>?_|fail)
   refine rt1 rfl rfl finS_p (ri ?_)
   unfold gapF
   split<;>split<;>omega
 ·have hd:decide ((i:Int) < t)=false:=decide_eq_false hit
  obtain rfl:t=i:=by omega
  repeat' (first|refine jx0 ?_|refine jy0 ?_ ?_|exact spF|refine spQ fun hq hq'=>?_|refine spN fun hn=>?_|fail)
  refine rt1 rfl rfl finS_p (ri ?_)
  unfold gapF
  rw [Int.toNat_natCast]
theorem next_w (b c m t:Int) (h:rightB b c m t=true):PCall Tryz.prog 58 [stV b c m t] (stV b c m (nxF t)):=by
 refine pcall_of Tryz.func58 rfl (fun w0 F S0 M0=>?_)
 have hn:(!rightB b c m t)=false:=by rw [h];rfl
 have hr:=right_of h
 unfold nxF
 by_cases ht:t < 1073741824
 ·have hd:decide (t < 1073741824)=true:=decide_eq_true ht
  rw [if_pos ht]
  repeat' (first|refine jx0 ?_|refine jy0 ?_ ?_|exact spF|refine spQ fun hq hq'=>?_|refine spN fun hn=>?_|fail)
  exact rc1 rfl rfl rfl rfl rfl rfl finL_p rfl
 ·have hd:decide (t < 1073741824)=false:=decide_eq_false ht
  rw [if_neg ht]
  repeat' (first|refine jx0 ?_|refine jy0 ?_ ?_|exact spF|refine spQ fun hq hq'=>?_|refine spN fun hn=>?_|fail)
  exact rc1 rfl rfl rfl rfl rfl rfl finL_p rfl
theorem reset_w (b c m t:Int) (h:rightB b c m t=true):PCall Tryz.prog 108 [stV b c m t] (stV b c m 0):=by
 refine pcall_of Tryz.func108 rfl (fun w0 F S0 M0=>?_)
 have hn:(!rightB b c m t)=false:=by rw [h];rfl
 repeat' (first|refine jx0 ?_|refine jy0 ?_ ?_|exact spF|refine spQ fun hq hq'=>?_|refine spN fun hn=>?_|fail)
 exact rc1 rfl rfl rfl rfl rfl rfl finL_p rfl
instance {b c m t:Int}:PC Tryz.prog 108 [stV b c m t] (rightB b c m t=true) (stV b c m 0):=⟨reset_w b c m t⟩
theorem spent_w (b c m t:Int) (h:rightB b c m t=true):PCall Tryz.prog 56 [stV b c m t] (.p (.b (decide (m≤t)))):=by
 refine pcall_of Tryz.func56 rfl (fun w0 F S0 M0=>?_)
 have hn:(!rightB b c m t)=false:=by rw [h];rfl
 repeat' (first|refine jx0 ?_|refine jy0 ?_ ?_|exact spF|refine spQ fun hq hq'=>?_|refine spN fun hn=>?_|fail)
 exact rt1 rfl rfl finS_p rfl
end Go.Proofs.YtkgploeegbmofaaGreat.Bo
namespace Go.Proofs.YtkgploeegbmofaaGreat.Wi
open Go Go.RowKit Go.Aw Go.Aw.Cart Go.Proofs.YtkgploeegbmofaaGreat.Ca
set_option linter.unusedVariables false
set_option linter.unusedSimpArgs false
set_option maxRecDepth 8000
set_option maxHeartbeats 4000000
namespace WA
theorem lopC {C:Ctx} {o:Oper} {σ:St} {e:Eff} {ro:Nat→Bool} (h:LOp C o σ e ro:=by
  first|(apply lop_cv_sb;(focus rfl);(focus exact inferInstance);(focus exact inferInstance);(focus exact inferInstance);(focus rfl);(focus assumption);(focus first|(simp only [maxLen,List.length_append,List.length_cons,List.length_nil,List.length_take,List.length_drop,List.length_map];omega)|omega);(focus rfl))|exact W9.lopC|fail):LOp C o σ e ro:=h
section steps
variable {C:Ctx} {ops:Array Oper} {o:Oper} {rest:List Oper} {K:St→Prop} {σ:St} {e:Eff} {ro:Nat→Bool} {W:List (Nat × Nat)} {i:Nat}
theorem rnC {d:Nat} (hg:Guard ops σ o true:=by first|exact gd_n rfl rfl|exact gd_t rfl rfl rfl rfl|exact gd_t rfl rfl rfl (by assumption)) (hd:o.dst=some d:=by rfl) (h:LOp C o σ e ro:=by exact lopC) (hk:RunN C ops rest K (e.app (some d) σ)):RunN C ops (o::rest) K σ:=rn_any hg hd h hk
end steps
end WA
open WA
theorem kdB_len {k:Kd} (h:k.1.length≤20) (hv:vecOk k.2.1) (hr:rightF k.2.1 k.2.2=true):(kdB k).length≤20029:=by
 have h1:=cartB_len hv hr
 have h2:=numI_len ((k.1.length:Nat):Int)
 rw [numI_nat] at h2
 unfold kdB textB
 rw [List.length_append,List.length_append]
 have h3:(cartB k.2).length≤20000:=h1
 omega
theorem writeAll_ok (l:List Kd) (ex:Bool) (hk:keysF l=true) (hin:∀ k∈l,KdI k):PCall Tryz.prog 89 [.p (.sl 10 (l.map kR) ex)] (.tup [.one (.p (.sl 1 ((listB l).map bR) false)),.one (.p (.i 0))]):=by
 refine pcall_of Tryz.func89 rfl (fun w0 F S0 M0=>?_)
 have ho:=keys_iff.1 hk
 have hl:=ho.few
 haveI:PC Tryz.prog 28 [.p (.sl 10 (l.map kR) ex)] True (.p (.b true)):=⟨fun _=>by
  have:=pright_w l ex (by omega) hin (fun k hm=>by have:=(ok_iff.1 (ho.cart k hm)).few;omega)
  rwa [hk] at this⟩
 have d0:(!true)=false:=rfl
 have b1:l.length < 18446744073709551616:=by omega
 have hnl:=numI_len (l.length:Int)
 rw [numI_nat] at hnl
 have hB:listB l=numB l.length++l.flatMap kdB:=rfl
 rw [hB]
 repeat' (first|refine jx5 ?_|refine jy0 ?_ ?_|exact spF|refine spQ fun hq hq'=>?_|refine spN fun hn=>?_|fail)
 refine rn_says (says_wr (p:=11) rfl) rfl ?_
 repeat' (first|refine jx5 ?_|refine jy0 ?_ ?_|exact spF|refine spQ fun hq hq'=>?_|refine spN fun hn=>?_|fail)
 have e0:([]++numB l.length:List Nat)=numB l.length:=rfl
 rw [e0]
 generalize numB l.length=B0 at hnl ⊢
 refine aws_loopS [6,19,20,21,22,23,24,25,26,27,28,29,30,31,32] [11,6] (fun (x:Nat × List Nat × Option MO)=>[(19,.p (.i x.1))]) (fun x=>[(11,(1,some (.abs (wrA x.2.1)))),(6,(x.1,x.2.2))]) (fun x=>x.1≤l.length∧x.2.1=B0++(l.take x.1).flatMap kdB∧x.2.1.length≤9+20029 * x.1) (fun x=>l.length - x.1) (0,B0,none) ⟨Nat.zero_le _,by simp,by dsimp only;omega⟩ (by exact knA) (by exact knA) ?_
 rintro ⟨i,L,c6⟩ β γ ⟨hi,hL,hll⟩
 dsimp only at hi hL hll ⊢
 by_cases hil:i < l.length
 ·have d1:decide ((i:Int) < (l.length:Int))=true:=decide_eq_true (by omega)
  have ei:(i:Int).toNat=i:=Int.toNat_natCast i
  have hm:l.getD (i:Int).toNat default∈l:=by rw [ei,getD_at hil];exact List.getElem_mem _
  have okx:=(hin _ hm).key
  have vx:=(hin _ hm).vec
  have kx:=ho.key _ hm
  have rx:=ho.cart _ hm
  have hkl:=kdB_len kx vx rx
  have hft:=flat_take kdB hil
  rw [← ei] at hft
  have kx':(l.getD (i:Int).toNat default).1.length≤1000000:=by omega
  have g1:L.length≤900000000:=by omega
  have ht:(textB (l.getD (i:Int).toNat default).1).length≤29:=by
   have h2:=numI_len (((l.getD (i:Int).toNat default).1.length:Nat):Int)
   rw [numI_nat] at h2
   unfold textB
   rw [List.length_append];omega
  have g2:(L++textB (l.getD (i:Int).toNat default).1).length≤800000000:=by rw [List.length_append];omega
  have e2:L++textB (l.getD (i:Int).toNat default).1++cartB ((l.getD (i:Int).toNat default).2.1,(l.getD (i:Int).toNat default).2.2)=L++kdB (l.getD (i:Int).toNat default):=by rw [List.append_assoc];rfl
  have hn:L++textB (l.getD (i:Int).toNat default).1++cartB ((l.getD (i:Int).toNat default).2.1,(l.getD (i:Int).toNat default).2.2)=B0++(l.take (i+1)).flatMap kdB:=by
   rw [e2,hL]
   rw [show (i:Int).toNat=i from ei] at hft ⊢
   rw [hft,List.append_assoc]
  have g5:(L++textB (l.getD (i:Int).toNat default).1++cartB ((l.getD (i:Int).toNat default).2.1,(l.getD (i:Int).toNat default).2.2)).length≤9+20029 * (i+1):=by rw [e2,List.length_append];omega
  clear hft hL e2 hkl hin ho kx
  as_aux_lemma=>
   repeat' (first|refine jx5 ?_|refine jy0 ?_ ?_|exact spF|refine spQ fun hq hq'=>?_|refine spN fun hn=>?_|fail)
   exact ⟨(i+1,_,_),_,by dsimp only;omega,⟨by dsimp only;omega,hn,g5⟩,.refl,by exact frA⟩
 ·have d1:decide ((i:Int) < (l.length:Int))=false:=decide_eq_false (by omega)
  rw [List.take_of_length_le (by omega)] at hL
  rw [← hL]
  clear hL hin ho
  have hl9:L.length≤1000000000:=by omega
  as_aux_lemma=>
   repeat' (first|refine jx5 ?_|refine jy0 ?_ ?_|exact spF|refine spQ fun hq hq'=>?_|refine spN fun hn=>?_|fail)
   exact rt2 rfl rfl finS_p rfl finS_p rfl
end Go.Proofs.YtkgploeegbmofaaGreat.Wi
namespace Go.Proofs.YtkgploeegbmofaaGreat.Wi
open Go Go.RowKit Go.Aw Go.Aw.Cart Go.Proofs.YtkgploeegbmofaaGreat.Ca Go.Proofs.YtkgploeegbmofaaGreat.Rg
set_option linter.unusedVariables false
set_option linter.unusedSimpArgs false
set_option maxRecDepth 8000
set_option maxHeartbeats 4000000
open B1
theorem kok_nil:KOk []:=⟨by decide,.nil,fun e h=>(by cases h),fun e h=>(by cases h)⟩
theorem kok_filter {l:List Kd} (p:Kd→Bool) (h:KOk l):KOk (l.filter p):=
 ⟨Nat.le_trans (List.length_filter_le _ _) h.few,h.up.sublist List.filter_sublist,fun e he=>h.key e (List.mem_filter.1 he).1,fun e he=>h.cart e (List.mem_filter.1 he).1⟩
theorem bkts_ok (l:List Kd) (part:Int) (j:Nat):KOk ((bktsF l part).getD j []):=by
 unfold bktsF
 by_cases hr:keysF l=true
 ·rw [if_pos hr]
  by_cases hj:j < 16
  ·rw [bkF_get _ _ hj]
   exact kok_filter _ (kok_filter _ (keys_iff.1 hr))
  ·rw [List.getD_eq_getElem?_getD,List.getElem?_eq_none (by rw [bkF_len];omega)];exact kok_nil
 ·rw [if_neg hr,List.getD_eq_getElem?_getD,List.getElem?_replicate]
  split<;>exact kok_nil
def txsF (l:List Kd) (part:Int):List (List Nat):=(bktsF l part).map listB
theorem txsF_len (l:List Kd) (part:Int):(txsF l part).length=16:=by rw [txsF,List.length_map];exact bkts_len l part
structure LIn (l:List Kd):Prop where
 len:l.length≤100000
 kd:∀ k∈l,KdI k
 few:∀ k∈l,k.2.2.length≤1000000000
theorem LIn.w {l:List Kd} (h:LIn l) (part:Int) (ex:Bool):PC Tryz.prog 78 [.p (.sl 10 (l.map kR) ex),.p (.i part)] True (.a ((bktsF l part).map fun b=>.p (.sl 10 (b.map kR) false))):=⟨fun _=>buckets_w l ex part h.len h.kd h.few⟩
theorem LIn.b {l:List Kd} (h:LIn l) (part:Int) (j:Nat):PC Tryz.prog 89 [.p (.sl 10 (((bktsF l part).getD j []).map kR) false)] True (.tup [.one (.p (.sl 1 ((listB ((bktsF l part).getD j [])).map bR) false)),.one (.p (.i 0))]):=
 ⟨fun _=>writeAll_ok _ false (keys_iff.2 (bkts_ok l part j)) fun k hk=>h.kd k (bk_sub k hk)⟩
theorem take_put {X:List (List Kd)} {i:Nat} (h:i < X.length) (hX:X.length=16):((X.take i).map listB++List.replicate (16 - i) []).set i (listB (X.getD i []))=(X.take (i+1)).map listB++List.replicate (16 - (i+1)) []:=by
 have h1:((X.take i).map listB).length=i:=by rw [List.length_map,List.length_take];omega
 rw [List.set_append_right _ _ (by omega),h1,Nat.sub_self,show 16 - i=(16 - (i+1))+1 by omega,List.replicate_succ,List.set_cons_zero]
 rw [List.take_succ_eq_append_getElem h,List.map_append,List.append_assoc,List.getD_eq_getElem?_getD,List.getElem?_eq_getElem h];rfl
theorem texts_w (l:List Kd) (ex:Bool) (part:Int) (h:LIn l):PCall Tryz.prog 69 [.p (.sl 10 (l.map kR) ex),.p (.i part)] (.a ((txsF l part).map fun b=>.p (.sl 1 (b.map bR) false))):=by
 refine pcall_of Tryz.func69 rfl (fun w0 F S0 M0=>?_)
 haveI hw:=h.w part ex
 have hX:=bkts_len l part
 have hb:∀ j:Nat,PC Tryz.prog 89 [.p (.sl 10 (((bktsF l part).getD (j:Int).toNat default).map kR) false)] True (.tup [.one (.p (.sl 1 ((listB ((bktsF l part).getD (j:Int).toNat default)).map bR) false)),.one (.p (.i 0))]):=fun j=>h.b part _
 unfold txsF
 obtain ⟨X,hXX⟩:∃ X,X=bktsF l part:=⟨_,rfl⟩
 rw [← hXX] at hw hX hb ⊢
 clear hXX
 repeat' (first|refine jx5 ?_|refine jy0 ?_ ?_|exact spF|refine spQ fun hq hq'=>?_|refine spN fun hn=>?_|fail)
 refine aws_says (says_arr0 (o:=5) (k:=16) (es:=1) (tyB:=0) rfl (by decide)) ?_
 refine aws_says (says_arr1 (o:=5) (L:=List.replicate 16 []) rfl) ?_
 refine aws_loopS [6,7,11,12,13,14,15,16,17,18,19,20,21,22] [5] (fun (x:Nat × List (List Nat))=>[(11,.p (.i x.1))]) (fun x=>[(5,(1,some (.box 136 (x.2.map fun b=>.p (.sl 1 (b.map bR) false)))))]) (fun x=>x.1≤16∧x.2=(X.take x.1).map listB++List.replicate (16 - x.1) []) (fun x=>16 - x.1) (0,List.replicate 16 []) ⟨Nat.zero_le _,rfl⟩ (by exact knA) (by exact knA) ?_
 rintro ⟨i,Y⟩ β γ ⟨hi,hY⟩
 dsimp only at hi hY ⊢
 have hYl:Y.length=16:=by rw [hY,List.length_append,List.length_map,List.length_take,List.length_replicate];omega
 by_cases hil:i < 16
 ·have d1:decide ((i:Int) < 16)=true:=decide_eq_true (by omega)
  haveI:=hb i
  have hput:=take_put (X:=X) (by omega:i < X.length) hX
  rw [← hY] at hput
  as_aux_lemma=>
   repeat' (first|refine jx5 ?_|refine jy0 ?_ ?_|exact spF|refine spQ fun hq hq'=>?_|refine spN fun hn=>?_|fail)
   exact ⟨(i+1,Y.set (i:Int).toNat (listB (X.getD (i:Int).toNat default))),_,by dsimp only;omega,⟨by dsimp only;omega,by dsimp only;rw [Int.toNat_natCast];exact hput⟩,.refl,by exact frA⟩
 ·have d1:decide ((i:Int) < 16)=false:=decide_eq_false (by omega)
  obtain rfl:i=16:=by omega
  rw [show (16:Nat) - 16=0 from rfl,List.replicate_zero,List.append_nil,List.take_of_length_le (by omega)] at hY
  rw [← hY]
  as_aux_lemma=>
   repeat' (first|refine jx5 ?_|refine jy0 ?_ ?_|exact spF|refine spQ fun hq hq'=>?_|refine spN fun hn=>?_|fail)
   exact rc1 rfl rfl rfl rfl rfl (by rw [List.length_map];exact hYl) finL_map rfl
def ofF' (l:List Kd) (part leaf:Int):List Kd:=if 0≤leaf∧leaf < 16 then (bktsF l part).getD leaf.toNat default else []
theorem of_w (l:List Kd) (ex:Bool) (part leaf:Int) (h:LIn l):PCall Tryz.prog 34 [.p (.sl 10 (l.map kR) ex),.p (.i part),.p (.i leaf)] (.p (.sl 10 ((ofF' l part leaf).map kR) false)):=by
 refine pcall_of Tryz.func34 rfl (fun w0 F S0 M0=>?_)
 haveI hw:=h.w part ex
 have hX:=bkts_len l part
 unfold ofF'
 by_cases h0:leaf < 0
 ·have d1:decide (leaf < 0)=true:=decide_eq_true h0
  rw [if_neg (by omega)]
  as_aux_lemma=>
   repeat' (first|refine jx6 ?_|refine jy0 ?_ ?_|exact spF|refine spQ fun hq hq'=>?_|refine spN fun hn=>?_|fail)
   exact rt1 rfl rfl (.one .nil) rfl
 ·have d1:decide (leaf < 0)=false:=decide_eq_false h0
  by_cases h1:16≤leaf
  ·have d2:decide (16≤leaf)=true:=decide_eq_true h1
   rw [if_neg (by omega)]
   as_aux_lemma=>
    repeat' (first|refine jx6 ?_|refine jy0 ?_ ?_|exact spF|refine spQ fun hq hq'=>?_|refine spN fun hn=>?_|fail)
    exact rt1 rfl rfl (.one .nil) rfl
  ·have d2:decide (16≤leaf)=false:=decide_eq_false h1
   rw [if_pos (by omega)]
   have hl16:leaf < 16:=by omega
   have hl0:0≤leaf:=by omega
   generalize bktsF l part=X at hw hX ⊢
   have hlX:leaf < X.length:=by omega
   as_aux_lemma=>
    repeat' (first|refine jx6 ?_|refine jy0 ?_ ?_|exact spF|refine spQ fun hq hq'=>?_|refine spN fun hn=>?_|fail)
    exact rt1 rfl rfl finS_p rfl
end Go.Proofs.YtkgploeegbmofaaGreat.Wi
