/- the reference's reader: faults, bytes, numbers -/
import Derived.Test.YtcbhmngagibhmaaGreatPRA09
import Derived.Test.YtcbhmngagibhmaaGreatPRA07
import Derived.Test.YtcbhmngagibhmaaGreatPRA11
import Derived.Test.YtcbhmngagibhmaaGreatPRA10
namespace Go.Proofs.YtcbhmngagibhmaaGreat.Wi
open Go Go.RowKit Go.Aw
set_option linter.unusedVariables false
set_option linter.unusedSimpArgs false
set_option maxRecDepth 8000
set_option maxHeartbeats 4000000
def atI (b:List Nat) (r:RS):Int:=(b.length:Int) - (r.1.length:Int)
theorem atI_must (b:List Nat) (is:Bool) (r:RS):atI b (mustS is r)=atI b r:=by unfold atI;rw [must_1]
abbrev rfM (b:List Nat) (r:RS):MO:=.box 143 [.p (.sl 1 (b.map bR) false),.p (.i (atI b r)),.p (.i r.2)]
theorem suf_drop {b:List Nat} {r:RS} (h:r.1 <:+ b):r.1=b.drop (b.length - r.1.length):=List.suffix_iff_eq_drop.1 h
theorem suf_at {b:List Nat} {r:RS} (h:r.1 <:+ b):∃ k:Nat,k≤b.length∧atI b r=k∧r.1=b.drop k:=by
 have:=h.length_le
 exact ⟨b.length - r.1.length,by omega,by unfold atI;omega,suf_drop h⟩
namespace P1
theorem lopC {C:Ctx} {o:Oper} {σ:St} {e:Eff} {ro:Nat→Bool} (h:LOp C o σ e ro:=by
  first|exact W4.lopC|fail):LOp C o σ e ro:=h
section steps
variable {C:Ctx} {ops:Array Oper} {o:Oper} {rest:List Oper} {K:St→Prop} {σ:St} {e:Eff} {ro:Nat→Bool} {W:List (Nat × Nat)} {i:Nat}
theorem rnC {d:Nat} (hg:Guard ops σ o true:=by first|exact gd_n rfl rfl|exact gd_t rfl rfl rfl rfl|exact gd_t rfl rfl rfl (by assumption)) (hd:o.dst=some d:=by rfl) (h:LOp C o σ e ro:=by exact lopC) (hk:RunN C ops rest K (e.app (some d) σ)):RunN C ops (o::rest) K σ:=rn_any hg hd h hk
theorem rkC {d:Nat} (hg:Guard ops σ o true:=by first|exact gd_n rfl rfl|exact gd_t rfl rfl rfl rfl|exact gd_t rfl rfl rfl (by assumption)) (hd':o.dst=some d:=by rfl) (hd:dOk C o.dst=true:=by rfl) (h:LOp C o σ e ro:=by exact lopC) (hro:∀ x,ro x=true→okObj ops W i x=true:=by first|exact fun _=>ro_none|exact ro_one rfl|exact ro_one (by kernel_rfl)|exact ro_kIn (by decide)) (hob:∀ p∈e.obj,(i,p.1)∈W:=by first|exact ob_none|exact ob_one (by decide)|decide) (hk:RunK C ops W (i+1) rest K (e.app (some d) σ)):RunK C ops W i (o::rest) K σ:=rk_wr hg hd' hd h hro hob hk
end steps
end P1
open P1
theorem rmust_o (n:Nat) (b:List Nat) (r:RS) (is:Bool):OCall Tryz.prog 110 [.o (.ptr 1000 n 0),.p (.b is)] (memL [(1000,(n+1,some (rfM b r)))]) (.tup []) (memL [(1000,(n+1,some (rfM b (mustS is r))))]):=by
 refine ocall_of1 Tryz.func110 rfl (fun w0 F S0 M0=>?_)
 unfold rfM
 rw [atI_must]
 by_cases h:r.2=0
 ·have d1:decide (r.2=0)=true:=decide_eq_true h
  cases is with
  | true=>
   rw [show (mustS true r).2=r.2 by unfold mustS;rw [if_neg (by simp)]]
   have d2:(!true)=false:=rfl
   as_aux_lemma=>
    repeat' (first|refine jx6 ?_|refine jy0 ?_ ?_|exact spF|refine spQ fun hq hq'=>?_|refine spN fun hn=>?_|fail)
    exact RetO.mk (res0 rfl rfl) ⟨.box finL_p,trivial⟩
  | false=>
   rw [show (mustS false r).2=3 by unfold mustS;rw [if_pos ⟨h,rfl⟩]]
   have d2:(!false)=true:=rfl
   as_aux_lemma=>
    repeat' (first|refine jx6 ?_|refine jy0 ?_ ?_|exact spF|refine spQ fun hq hq'=>?_|refine spN fun hn=>?_|fail)
    exact RetO.mk (res0 rfl rfl) ⟨.box finL_p,trivial⟩
 ·have d1:decide (r.2=0)=false:=decide_eq_false h
  rw [show (mustS is r).2=r.2 by unfold mustS;rw [if_neg fun q=>h q.1]]
  as_aux_lemma=>
   repeat' (first|refine jx6 ?_|refine jy0 ?_ ?_|exact spF|refine spQ fun hq hq'=>?_|refine spN fun hn=>?_|fail)
   exact RetO.mk (res0 rfl rfl) ⟨.box finL_p,trivial⟩
theorem rbytes_o (n:Nat) (b:List Nat) (r:RS) (k:Nat) (hs:r.1 <:+ b) (hl:b.length≤1000000000) (hk9:k≤1000000000):OCall Tryz.prog 146 [.o (.ptr 1000 n 0),.p (.i (k:Int))] (memL [(1000,(n+1,some (rfM b r)))]) (.p (.sl 1 ((takeS k r).1.map bR) false)) (memL [(1000,(n+1,some (rfM b (takeS k r).2)))]):=by
 refine ocall_of1 Tryz.func146 rfl (fun w0 F S0 M0=>?_)
 obtain ⟨k0,hk0,ha,hd⟩:=suf_at hs
 have hrl:r.1.length=b.length - k0:=by rw [hd,List.length_drop]
 unfold rfM
 by_cases h:r.2=0
 ·have d1:decide (r.2=0)=true:=decide_eq_true h
  by_cases hk:r.1.length < k
  ·have e:takeS k r=([],(r.1,8)):=by unfold takeS;rw [if_neg fun q=>q h,if_pos hk]
   rw [e,show atI b (r.1,8)=atI b r from rfl,ha]
   have d2:decide ((b.length:Int) - (k0:Int) < (k:Int))=true:=decide_eq_true (by omega)
   as_aux_lemma=>
    repeat' (first|refine jx6 ?_|refine jy0 ?_ ?_|exact spF|refine spQ fun hq hq'=>?_|refine spN fun hn=>?_|fail)
    exact RetO.mk (ot1 rfl rfl (.one .nil) rfl) ⟨.box finL_p,trivial⟩
  ·have e:takeS k r=((b.drop ((k0:Int)+k - k).toNat).take (((k0:Int)+k).toNat - ((k0:Int)+k - k).toNat),(r.1.drop k,r.2)):=by
    unfold takeS
    rw [if_neg fun q=>q h,if_neg hk,hd,h,show ((k0:Int)+k - k).toNat=k0 by omega,show ((k0:Int)+k).toNat - k0=k by omega]
   have e2:atI b (r.1.drop k,r.2)=(k0:Int)+k:=by unfold atI;dsimp only;rw [List.length_drop];omega
   rw [e,e2,ha]
   have d2:decide ((b.length:Int) - (k0:Int) < (k:Int))=false:=decide_eq_false (by omega)
   have d3:decide (r.2≠0)=false:=decide_eq_false fun q=>q h
   as_aux_lemma=>
    repeat' (first|refine jx6 ?_|refine jy0 ?_ ?_|exact spF|refine spQ fun hq hq'=>?_|refine spN fun hn=>?_|fail)
    exact RetO.mk (ot1 rfl rfl finS_p rfl) ⟨.box finL_p,trivial⟩
 ·have d1:decide (r.2=0)=false:=decide_eq_false h
  have d3:decide (r.2≠0)=true:=decide_eq_true h
  rw [take_bad h]
  as_aux_lemma=>
   repeat' (first|refine jx6 ?_|refine jy0 ?_ ?_|exact spF|refine spQ fun hq hq'=>?_|refine spN fun hn=>?_|fail)
   exact RetO.mk (ot1 rfl rfl (.one .nil) rfl) ⟨.box finL_p,trivial⟩
structure RfOk (b:List Nat) (r:RS):Prop where
 byte:∀ c∈r.1,c < 256
 suf:r.1 <:+ b
 len:b.length≤1000000000
theorem RfOk.rd {b:List Nat} {r:RS} (h:RfOk b r):r.1.length≤1000000000:=Nat.le_trans h.suf.length_le h.len
theorem Par.rf {α:Type} {P:RS→α × RS} (hP:Par P) {b:List Nat} {r:RS} (h:RfOk b r):RfOk b (P r).2:=⟨hP.byte h.byte,(hP.suf r).trans h.suf,h.len⟩
theorem must_bad {r:RS} (h:r.2≠0) (is:Bool):mustS is r=r:=by unfold mustS;rw [if_neg fun q=>h q.1]
theorem must_t (r:RS):mustS true r=r:=by unfold mustS;rw [if_neg (by simp)]
theorem rfnum_o (n:Nat) (b:List Nat) (r:RS) (hr:RfOk b r):OCall Tryz.prog 109 [.o (.ptr 1000 n 0)] (memL [(1000,(n+1,some (rfM b r)))]) (.p (.k .u64 ((numS r).1:Int))) (memL [(1000,(n+1,some (rfM b (numS r).2)))]):=by
 refine ocall_of1 Tryz.func109 rfl (fun w0 F S0 M0=>?_)
 have hsf:=hr.suf
 have hln:=hr.len
 haveI b1:OC Tryz.prog 146 [.o (.ptr 1000 n 0),.p (.i 1)] [(1000,(n+1,some (rfM b r)))] [] True (.p (.sl 1 ((takeS 1 r).1.map bR) false)) [(1000,(n+1,some (rfM b (takeS 1 r).2)))]:=⟨fun _=>(rbytes_o n b r 1 hsf hln (by decide)).one 1000⟩
 by_cases h0:(takeS 1 r).1.length=0
 ·rw [show numS r=(0,(takeS 1 r).2) by unfold numS;rw [if_pos h0]]
  have h1:(takeS 1 r).2.2≠0:=by
   intro q
   unfold takeS at h0 q
   by_cases h2:r.2≠0
   ·rw [if_pos h2] at q;exact h2 q
   ·rw [if_neg h2] at q h0
    by_cases h3:r.1.length < 1
    ·rw [if_pos h3] at q;exact absurd (show (8:Int)=0 from q) (by decide)
    ·rw [if_neg h3] at h0
     rw [List.length_take] at h0;omega
  have d1:decide (0 < ((takeS 1 r).1.length:Int))=false:=decide_eq_false (by omega)
  have hsf1:(takeS 1 r).2.1 <:+ b:=((par_take 1).suf r).trans hsf
  generalize takeS 1 r=q at *
  obtain ⟨H,r1⟩:=q
  dsimp only at *
  haveI m1:∀ is:Bool,OC Tryz.prog 110 [.o (.ptr 1000 n 0),.p (.b is)] [(1000,(n+1,some (rfM b r1)))] [] True (.tup []) [(1000,(n+1,some (rfM b r1)))]:=fun is=>⟨fun _=>by have:=(rmust_o n b r1 is).one 1000;rw [must_bad h1] at this;exact this⟩
  have s1:r1.1 <:+ b:=hsf1
  haveI b0:OC Tryz.prog 146 [.o (.ptr 1000 n 0),.p (.i 0)] [(1000,(n+1,some (rfM b r1)))] [] True (.p (.sl 1 (([]:List Nat).map bR) false)) [(1000,(n+1,some (rfM b r1)))]:=⟨fun _=>by have:=(rbytes_o n b r1 0 s1 hln (by decide)).one 1000;rw [take_bad h1] at this;exact this⟩
  have d3:decide (r1.2≠0)=true:=decide_eq_true h1
  have d4:decide ((0:Int) < ((([]:List Nat).length:Nat):Int))=false:=rfl
  repeat' (first|refine jx5 ?_|refine jy0 ?_ ?_|exact spF|refine spQ fun hq hq'=>?_|refine spN fun hn=>?_|fail)
  refine aws_loopS [6,7,24,25,26,27,28,29,30,31,32,33,34,35,36,37,38,39,40,41,42,43,44,45,46,47,48] [1000] (fun (_:Unit)=>[(7,.p (.i 0)),(6,.p (.k .u64 0))]) (fun _=>[(1000,(n+1,some (rfM b r1)))]) (fun _=>True) (fun _=>0) () trivial (by exact knA) (by exact knA) ?_
  rintro ⟨⟩ β γ -
  as_aux_lemma=>
   repeat' (first|refine jx5 ?_|refine jy0 ?_ ?_|exact spF|refine spQ fun hq hq'=>?_|refine spN fun hn=>?_|fail)
   exact RetO.mk (ot1 rfl rfl finS_p rfl) ⟨.box finL_p,trivial⟩
 ·have d1:decide (0 < ((takeS 1 r).1.length:Int))=true:=decide_eq_true (by omega)
  have h1l:0 < (takeS 1 r).1.length:=by omega
  have en:numS r=(if (numR2 r).2=0 then valB (numL r).1 else 0,numR2 r):=by unfold numS;rw [if_neg h0]
  rw [en]
  have hL:=numL_len r
  have hB:=numL_byte hr.byte
  have hH:(takeS 1 r).1.getD (0:Int).toNat default < 256:=by
   have:=(take_byte (n:=1) hr.byte).1
   rw [List.getD_eq_getElem?_getD,List.getElem?_eq_getElem (by show 0 < _;omega)]
   exact this _ (List.getElem_mem _)
  have s1:RfOk b (takeS 1 r).2:=(par_take 1).rf hr
  have s2:RfOk b (numR1 r):=by unfold numR1;exact ⟨by rw [must_1];exact s1.byte,by rw [must_1];exact s1.suf,s1.len⟩
  haveI m1:OC Tryz.prog 110 [.o (.ptr 1000 n 0),.p (.b (decide ((((takeS 1 r).1.getD (0:Int).toNat default:Nat):Int)≤8)))] [(1000,(n+1,some (rfM b (takeS 1 r).2)))] [] True (.tup []) [(1000,(n+1,some (rfM b (numR1 r))))]:=⟨fun _=>(rmust_o n b (takeS 1 r).2 _).one 1000⟩
  haveI b2:OC Tryz.prog 146 [.o (.ptr 1000 n 0),.p (.i (((takeS 1 r).1.getD (0:Int).toNat default:Nat):Int))] [(1000,(n+1,some (rfM b (numR1 r))))] [] True (.p (.sl 1 ((numL r).1.map bR) false)) [(1000,(n+1,some (rfM b (numL r).2)))]:=⟨fun _=>(rbytes_o n b (numR1 r) _ s2.suf hln (by omega)).one 1000⟩
  have hR:numR2 r=if (numL r).1.length=0 then (numL r).2 else mustS (decide (0 < (((numL r).1.getD 0 default:Nat):Int))) (numL r).2:=by
   unfold numR2
   by_cases q:(numL r).1.length=0
   ·rw [if_pos q,if_pos q];exact must_t _
   ·rw [if_neg q,if_neg q];rfl
  generalize numR2 r=r3 at hR ⊢
  generalize numL r=q at hL hB b2 hR ⊢
  generalize numR1 r=rA at m1 b2 s2
  obtain ⟨L,r2⟩:=q
  dsimp only at hL hB b2 hR ⊢
  generalize takeS 1 r=q1 at b1 d1 h1l hH m1 b2 s1
  obtain ⟨H,r1⟩:=q1
  dsimp only at b1 d1 h1l hH m1 b2 s1
  haveI m3:OC Tryz.prog 110 [.o (.ptr 1000 n 0),.p (.b true)] [(1000,(n+1,some (rfM b r3)))] [] True (.tup []) [(1000,(n+1,some (rfM b r3)))]:=⟨fun _=>by have:=(rmust_o n b r3 true).one 1000;rw [must_t] at this;exact this⟩
  clear en h0 s1 s2 hr
  repeat' (first|refine jx5 ?_|refine jy0 ?_ ?_|exact spF|refine spQ fun hq hq'=>?_|refine spN fun hn=>?_|fail)
  refine aws_loopS [6,7,24,25,26,27,28,29,30,31,32,33,34,35,36,37,38,39,40,41,42,43,44,45,46,47,48] [1000] (fun (x:Nat × Nat × RS)=>[(7,.p (.i x.1)),(6,.p (.k .u64 (x.2.1:Int)))]) (fun x=>[(1000,(n+1,some (rfM b x.2.2)))]) (fun x=>x.1≤L.length∧x.2.1=valB (L.take x.1)∧x.2.2=if x.1=0 then r2 else r3) (fun x=>L.length - x.1) (0,0,r2) ⟨Nat.zero_le _,rfl,rfl⟩ (by exact knA) (by exact knA) ?_
  rintro ⟨i,a,rr⟩ β γ ⟨hi,ha,hrr⟩
  dsimp only at hi ha hrr ⊢
  by_cases hil:i < L.length
  ·have q0:decide ((i:Int) < (L.length:Int))=true:=decide_eq_true (by omega)
   have hc:L.getD (i:Int).toNat default < 256:=by
    rw [Int.toNat_natCast,List.getD_eq_getElem?_getD,List.getElem?_eq_getElem hil];exact hB _ (List.getElem_mem _)
   have ht:L.take (i+1)=L.take i++[L.getD (i:Int).toNat default]:=by
    rw [Int.toNat_natCast,List.take_succ_eq_append_getElem hil,List.getD_eq_getElem?_getD,List.getElem?_eq_getElem hil];rfl
   have hv:256 * a+L.getD (i:Int).toNat default < 18446744073709551616:=by
    have:=valB_fit (l:=L.take (i+1)) (by rw [List.length_take];omega) (fun b k=>hB b (List.mem_of_mem_take k))
    rw [ht,valB_snoc,← ha] at this
    omega
   have hnx:(256 * a % md .u64+L.getD (i:Int).toNat default % md .u64) % md .u64=valB (L.take (i+1)):=by
    rw [ht,valB_snoc,← ha,show md .u64=18446744073709551616 from rfl];omega
   by_cases hi0:i=0
   ·have q1:decide (0 < (i:Int))=false:=decide_eq_false (by omega)
    rw [if_pos hi0] at hrr
    rw [if_neg (by omega)] at hR
    have hR':r3=mustS (decide (0 < ((L.getD (i:Int).toNat default:Nat):Int))) r2:=by rw [hR,hi0];rfl
    subst hrr
    haveI m2:OC Tryz.prog 110 [.o (.ptr 1000 n 0),.p (.b (decide (0 < ((L.getD (i:Int).toNat default:Nat):Int))))] [(1000,(n+1,some (rfM b rr)))] [] True (.tup []) [(1000,(n+1,some (rfM b r3)))]:=⟨fun _=>by rw [hR'];exact (rmust_o n b rr _).one 1000⟩
    clear hR hR' hB ha ht
    as_aux_lemma=>
     repeat' (first|refine jx5 ?_|refine jy0 ?_ ?_|exact spF|refine spQ fun hq hq'=>?_|refine spN fun hn=>?_|fail)
     exact ⟨(i+1,(256 * a % md .u64+L.getD (i:Int).toNat default % md .u64) % md .u64,r3),_,by dsimp only;omega,⟨by dsimp only;omega,hnx,(if_neg (by dsimp only;omega)).symm⟩,.refl,by exact frA⟩
   ·have q1:decide (0 < (i:Int))=true:=decide_eq_true (by omega)
    rw [if_neg hi0] at hrr
    subst hrr
    clear hR hB ha ht
    as_aux_lemma=>
     repeat' (first|refine jx5 ?_|refine jy0 ?_ ?_|exact spF|refine spQ fun hq hq'=>?_|refine spN fun hn=>?_|fail)
     exact ⟨(i+1,(256 * a % md .u64+L.getD (i:Int).toNat default % md .u64) % md .u64,rr),_,by dsimp only;omega,⟨by dsimp only;omega,hnx,(if_neg (by dsimp only;omega)).symm⟩,.refl,by exact frA⟩
  ·have q0:decide ((i:Int) < (L.length:Int))=false:=decide_eq_false (by omega)
   obtain rfl:i=L.length:=by omega
   rw [List.take_length] at ha
   have hrr3:rr=r3:=by
    rw [hrr,hR]
    by_cases q:L.length=0
    ·rw [if_pos q,if_pos q]
    ·rw [if_neg q,if_neg q]
   subst hrr3
   clear hrr hR
   rw [← ha]
   by_cases hz:rr.2=0
   ·have d4:decide (rr.2≠0)=false:=decide_eq_false fun q=>q hz
    rw [if_pos hz]
    as_aux_lemma=>
     repeat' (first|refine jx5 ?_|refine jy0 ?_ ?_|exact spF|refine spQ fun hq hq'=>?_|refine spN fun hn=>?_|fail)
     exact RetO.mk (ot1 rfl rfl finS_p rfl) ⟨.box finL_p,trivial⟩
   ·have d4:decide (rr.2≠0)=true:=decide_eq_true hz
    rw [if_neg hz]
    as_aux_lemma=>
     repeat' (first|refine jx5 ?_|refine jy0 ?_ ?_|exact spF|refine spQ fun hq hq'=>?_|refine spN fun hn=>?_|fail)
     exact RetO.mk (ot1 rfl rfl finS_p rfl) ⟨.box finL_p,trivial⟩
end Go.Proofs.YtcbhmngagibhmaaGreat.Wi
namespace Go.Proofs.YtcbhmngagibhmaaGreat.Wi
open Go Go.RowKit Go.Aw Go.Aw.Cart Go.Proofs.YtcbhmngagibhmaaGreat.Ca
set_option linter.unusedVariables false
set_option linter.unusedSimpArgs false
set_option maxRecDepth 8000
set_option maxHeartbeats 4000000
namespace P2
theorem rnC {C:Ctx} {ops:Array Oper} {o:Oper} {rest:List Oper} {K:St→Prop} {σ:St} {e:Eff} {ro:Nat→Bool} {d:Nat} (hg:Guard ops σ o true:=by first|exact gd_n rfl rfl|exact gd_t rfl rfl rfl (by assumption)|exact gd_t rfl rfl rfl rfl) (hd:o.dst=some d:=by rfl) (h:LOp C o σ e ro:=by exact W6.lopC) (hk:RunN C ops rest K (e.app (some d) σ)):RunN C ops (o::rest) K σ:=rn_any hg hd h hk
end P2
section
open P2
theorem rfint_o (n:Nat) (b:List Nat) (r:RS) (hr:RfOk b r):OCall Tryz.prog 164 [.o (.ptr 1000 n 0)] (memL [(1000,(n+1,some (rfM b r)))]) (.p (.i (intS r).1)) (memL [(1000,(n+1,some (rfM b (intS r).2)))]):=by
 refine ocall_of1 Tryz.func164 rfl (fun w0 F S0 M0=>?_)
 have hf:=numS_fit hr.byte
 have eI:intS r=okS (unz (numS r).1) 0 (mustS (zOk (numS r).1) (numS r).2):=rfl
 rw [eI]
 haveI b1:OC Tryz.prog 109 [.o (.ptr 1000 n 0)] [(1000,(n+1,some (rfM b r)))] [] True (.p (.k .u64 ((numS r).1:Int))) [(1000,(n+1,some (rfM b (numS r).2)))]:=⟨fun _=>(rfnum_o n b r hr).one 1000⟩
 generalize numS r=q at hf b1 ⊢
 obtain ⟨x,r1⟩:=q
 dsimp only at hf b1 ⊢
 haveI m1:∀ is:Bool,OC Tryz.prog 110 [.o (.ptr 1000 n 0),.p (.b is)] [(1000,(n+1,some (rfM b r1)))] [] True (.tup []) [(1000,(n+1,some (rfM b (mustS is r1))))]:=fun is=>⟨fun _=>(rmust_o n b r1 is).one 1000⟩
 have fin:∀ r2:RS,okS (unz x) 0 r2=(if r2.2=0 then unz x else 0,r2):=fun _=>rfl
 rw [fin]
 have hmd:md .u64=18446744073709551616:=rfl
 have hK:x / 2 % md .u64=x / 2:=by rw [hmd];omega
 have hw:IntKind.i64.wrap ((x / 2 % md .u64:Nat):Int)=((x / 2:Nat):Int):=by rw [hK];exact IntWalk.i64_in _ (by omega)
 have hcn : -9223372036854775808≤((x / 2:Nat):Int)∧((x / 2:Nat):Int)≤9223372036854775807:=by omega
 have key:∀ is:Bool,(mustS is r1).2=0∨(mustS is r1).2≠0:=fun is=>by by_cases q:(mustS is r1).2=0<;>simp [q]
 unfold zOk
 by_cases he:x % 2=0
 ·have d1:decide ((x:Int) % 2=0)=true:=decide_eq_true (by omega)
  have d5:decide ((x:Int) % 2=1)=false:=decide_eq_false (by omega)
  have eu:unz x=((x / 2:Nat):Int):=by unfold unz;rw [if_neg (by omega)]
  rw [if_pos he,eu]
  by_cases hk:x / 2≤4611686018427387904
  ·have d2:decide (((x / 2 % md .u64:Nat):Int)≤4611686018427387904)=true:=decide_eq_true (by rw [hK];omega)
   rw [decide_eq_true hk]
   rcases key true with hz|hz
   ·have d3:decide ((mustS true r1).2≠0)=false:=decide_eq_false fun q=>q hz
    rw [if_pos hz]
    as_aux_lemma=>
     repeat' (first|refine jx5 ?_|refine jy0 ?_ ?_|exact spF|refine spQ fun hq hq'=>?_|refine spN fun hn=>?_|fail)
     exact RetO.mk (ot1 rfl rfl finS_p rfl) ⟨.box finL_p,trivial⟩
   ·have d3:decide ((mustS true r1).2≠0)=true:=decide_eq_true hz
    rw [if_neg hz]
    as_aux_lemma=>
     repeat' (first|refine jx5 ?_|refine jy0 ?_ ?_|exact spF|refine spQ fun hq hq'=>?_|refine spN fun hn=>?_|fail)
     exact RetO.mk (ot1 rfl rfl finS_p rfl) ⟨.box finL_p,trivial⟩
  ·have d2:decide (((x / 2 % md .u64:Nat):Int)≤4611686018427387904)=false:=decide_eq_false (by rw [hK];omega)
   rw [decide_eq_false hk]
   rcases key false with hz|hz
   ·have d3:decide ((mustS false r1).2≠0)=false:=decide_eq_false fun q=>q hz
    rw [if_pos hz]
    as_aux_lemma=>
     repeat' (first|refine jx5 ?_|refine jy0 ?_ ?_|exact spF|refine spQ fun hq hq'=>?_|refine spN fun hn=>?_|fail)
     exact RetO.mk (ot1 rfl rfl finS_p rfl) ⟨.box finL_p,trivial⟩
   ·have d3:decide ((mustS false r1).2≠0)=true:=decide_eq_true hz
    rw [if_neg hz]
    as_aux_lemma=>
     repeat' (first|refine jx5 ?_|refine jy0 ?_ ?_|exact spF|refine spQ fun hq hq'=>?_|refine spN fun hn=>?_|fail)
     exact RetO.mk (ot1 rfl rfl finS_p rfl) ⟨.box finL_p,trivial⟩
 ·have d1:decide ((x:Int) % 2=0)=false:=decide_eq_false (by omega)
  have d5:decide ((x:Int) % 2=1)=true:=decide_eq_true (by omega)
  have eu:unz x=0 - ((x / 2:Nat):Int) - 1:=by unfold unz;rw [if_pos (by omega)];omega
  have e2:decide (x / 2 < 4611686018427387904)=decide (((x / 2 % md .u64:Nat):Int) < 4611686018427387904):=decide_eq_decide.2 (by rw [hK];omega)
  obtain ⟨r2,hr2⟩:∃ r2,r2=mustS (decide (((x / 2 % md .u64:Nat):Int) < 4611686018427387904)) r1:=⟨_,rfl⟩
  rw [if_neg he,e2,eu,← hr2]
  haveI m2:OC Tryz.prog 110 [.o (.ptr 1000 n 0),.p (.b (decide (((x / 2 % md .u64:Nat):Int) < 4611686018427387904)))] [(1000,(n+1,some (rfM b r1)))] [] True (.tup []) [(1000,(n+1,some (rfM b r2)))]:=⟨fun _=>by rw [hr2];exact (rmust_o n b r1 _).one 1000⟩
  clear m1 hr2 e2 key eu
  by_cases hz:r2.2=0
  ·have d3:decide (r2.2≠0)=false:=decide_eq_false fun q=>q hz
   rw [if_pos hz]
   as_aux_lemma=>
    repeat' (first|refine jx5 ?_|refine jy0 ?_ ?_|exact spF|refine spQ fun hq hq'=>?_|refine spN fun hn=>?_|fail)
    exact RetO.mk (ot1 rfl rfl finS_p rfl) ⟨.box finL_p,trivial⟩
  ·have d3:decide (r2.2≠0)=true:=decide_eq_true hz
   rw [if_neg hz]
   as_aux_lemma=>
    repeat' (first|refine jx5 ?_|refine jy0 ?_ ?_|exact spF|refine spQ fun hq hq'=>?_|refine spN fun hn=>?_|fail)
    exact RetO.mk (ot1 rfl rfl finS_p rfl) ⟨.box finL_p,trivial⟩
end
open W6
theorem rfend_o (n:Nat) (b:List Nat) (r:RS) (hr:RfOk b r):OCall Tryz.prog 111 [.o (.ptr 1000 n 0)] (memL [(1000,(n+1,some (rfM b r)))]) (.p (.i (endS r))) (memL [(1000,(n+1,some (rfM b r)))]):=by
 refine ocall_of1 Tryz.func111 rfl (fun w0 F S0 M0=>?_)
 unfold endS
 have hle:=hr.suf.length_le
 by_cases h:r.2=0
 ·have d1:decide (r.2=0)=true:=decide_eq_true h
  rw [if_neg (fun q=>q h)]
  by_cases hl:0 < r.1.length
  ·have d2:decide (atI b r < (b.length:Int))=true:=decide_eq_true (by unfold atI;omega)
   rw [if_pos hl]
   as_aux_lemma=>
    repeat' (first|refine jx6 ?_|refine jy0 ?_ ?_|exact spF|refine spQ fun hq hq'=>?_|refine spN fun hn=>?_|fail)
    exact RetO.mk (ot1 rfl rfl finS_p rfl) ⟨.box finL_p,trivial⟩
  ·have d2:decide (atI b r < (b.length:Int))=false:=decide_eq_false (by unfold atI;omega)
   rw [if_neg hl]
   as_aux_lemma=>
    repeat' (first|refine jx6 ?_|refine jy0 ?_ ?_|exact spF|refine spQ fun hq hq'=>?_|refine spN fun hn=>?_|fail)
    exact RetO.mk (ot1 rfl rfl finS_p (ri h.symm)) ⟨.box finL_p,trivial⟩
 ·have d1:decide (r.2=0)=false:=decide_eq_false h
  rw [if_pos h]
  as_aux_lemma=>
   repeat' (first|refine jx6 ?_|refine jy0 ?_ ?_|exact spF|refine spQ fun hq hq'=>?_|refine spN fun hn=>?_|fail)
   exact RetO.mk (ot1 rfl rfl finS_p rfl) ⟨.box finL_p,trivial⟩
instance rfend_i {c g n:Nat} {b:List Nat} {r:RS}:OC Tryz.prog 111 [.o (.ptr c g 0)] [(c,(n,some (rfM b r)))] [] (n=g+1∧RfOk b r) (.p (.i (endS r))) [(c,(n,some (rfM b r)))]:=⟨fun h=>by obtain ⟨rfl,h⟩:=h;exact (rfend_o g b r h).one c⟩
theorem rfsmall_o (n:Nat) (b:List Nat) (r:RS) (most:Int) (h0:0≤most) (hm:most≤9223372036854775807) (hr:RfOk b r):OCall Tryz.prog 72 [.o (.ptr 1000 n 0),.p (.i most)] (memL [(1000,(n+1,some (rfM b r)))]) (.p (.i (smallS most r).1)) (memL [(1000,(n+1,some (rfM b (smallS most r).2)))]):=by
 refine ocall_of1 Tryz.func72 rfl (fun w0 F S0 M0=>?_)
 have hf:=numS_fit hr.byte
 have eI:smallS most r=okS (((numS r).1:Nat):Int) 0 (mustS (decide (0≤most)&&decide (((numS r).1:Int)≤most)) (numS r).2):=rfl
 rw [eI,decide_eq_true h0,Bool.true_and]
 haveI b1:OC Tryz.prog 109 [.o (.ptr 1000 n 0)] [(1000,(n+1,some (rfM b r)))] [] True (.p (.k .u64 ((numS r).1:Int))) [(1000,(n+1,some (rfM b (numS r).2)))]:=⟨fun _=>(rfnum_o n b r hr).one 1000⟩
 generalize numS r=q at hf b1 ⊢
 obtain ⟨x,r1⟩:=q
 dsimp only at hf b1 ⊢
 haveI m1:OC Tryz.prog 110 [.o (.ptr 1000 n 0),.p (.b (decide (0≤most)))] [(1000,(n+1,some (rfM b r1)))] [] True (.tup []) [(1000,(n+1,some (rfM b r1)))]:=⟨fun _=>by have:=(rmust_o n b r1 (decide (0≤most))).one 1000;rw [decide_eq_true h0,must_t] at this;rw [decide_eq_true h0];exact this⟩
 haveI m2:OC Tryz.prog 110 [.o (.ptr 1000 n 0),.p (.b (decide ((x:Int)≤most)))] [(1000,(n+1,some (rfM b r1)))] [] True (.tup []) [(1000,(n+1,some (rfM b (mustS (decide ((x:Int)≤most)) r1))))]:=⟨fun _=>(rmust_o n b r1 _).one 1000⟩
 have d1:decide (most < 0)=false:=decide_eq_false (by omega)
 have hw:IntKind.u64.wrap most=most:=IntWalk.u64_in _ (by omega)
 have fin:∀ r2:RS,okS ((x:Nat):Int) 0 r2=(if r2.2=0 then ((x:Nat):Int) else 0,r2):=fun _=>rfl
 rw [fin]
 by_cases hz:(mustS (decide ((x:Int)≤most)) r1).2=0
 ·have d2:decide ((mustS (decide ((x:Int)≤most)) r1).2≠0)=false:=decide_eq_false fun q=>q hz
  rw [if_pos hz]
  have hle:(x:Int)≤most:=by
   by_cases q:(x:Int)≤most
   ·exact q
   ·exfalso
    rw [decide_eq_false q] at hz
    unfold mustS at hz
    by_cases k:r1.2=0
    ·rw [if_pos ⟨k,rfl⟩] at hz;exact absurd (show (3:Int)=0 from hz) (by decide)
    ·rw [if_neg fun y=>k y.1] at hz;exact k hz
  have hw2:IntKind.i64.wrap ((x:Nat):Int)=((x:Nat):Int):=IntWalk.i64_in _ (by omega)
  generalize mustS (decide ((x:Int)≤most)) r1=r2 at *
  as_aux_lemma=>
   repeat' (first|refine jx5 ?_|refine jy0 ?_ ?_|exact spF|refine spQ fun hq hq'=>?_|refine spN fun hn=>?_|fail)
   exact RetO.mk (ot1 rfl rfl finS_p rfl) ⟨.box finL_p,trivial⟩
 ·have d2:decide ((mustS (decide ((x:Int)≤most)) r1).2≠0)=true:=decide_eq_true hz
  rw [if_neg hz]
  generalize mustS (decide ((x:Int)≤most)) r1=r2 at *
  as_aux_lemma=>
   repeat' (first|refine jx5 ?_|refine jy0 ?_ ?_|exact spF|refine spQ fun hq hq'=>?_|refine spN fun hn=>?_|fail)
   exact RetO.mk (ot1 rfl rfl finS_p rfl) ⟨.box finL_p,trivial⟩
theorem rftext_o (n:Nat) (b:List Nat) (r:RS) (most:Int) (h0:0≤most) (hm:most≤1000000000) (hr:RfOk b r):OCall Tryz.prog 107 [.o (.ptr 1000 n 0),.p (.i most)] (memL [(1000,(n+1,some (rfM b r)))]) (.p (.sl 1 ((textS most r).1.map bR) false)) (memL [(1000,(n+1,some (rfM b (textS most r).2)))]):=by
 refine ocall_of1 Tryz.func107 rfl (fun w0 F S0 M0=>?_)
 obtain ⟨k,hk⟩:=small_nat most r
 have hkm:(k:Int)≤most:=by rw [← hk];exact small_le h0 r
 have e:textS most r=takeS k (smallS most r).2:=by
  show takeS (smallS most r).1.toNat (smallS most r).2=_
  rw [hk,Int.toNat_natCast]
 rw [e]
 have h2:=(par_small most).rf hr
 haveI b1:OC Tryz.prog 72 [.o (.ptr 1000 n 0),.p (.i most)] [(1000,(n+1,some (rfM b r)))] [] True (.p (.i (k:Int))) [(1000,(n+1,some (rfM b (smallS most r).2)))]:=⟨fun _=>by rw [← hk];exact (rfsmall_o n b r most h0 (by omega) hr).one 1000⟩
 haveI b2:OC Tryz.prog 146 [.o (.ptr 1000 n 0),.p (.i (k:Int))] [(1000,(n+1,some (rfM b (smallS most r).2)))] [] True (.p (.sl 1 ((takeS k (smallS most r).2).1.map bR) false)) [(1000,(n+1,some (rfM b (takeS k (smallS most r).2).2)))]:=⟨fun _=>(rbytes_o n b _ k h2.suf h2.len (by omega)).one 1000⟩
 generalize (smallS most r).2=r2 at *
 as_aux_lemma=>
  repeat' (first|refine jx5 ?_|refine jy0 ?_ ?_|exact spF|refine spQ fun hq hq'=>?_|refine spN fun hn=>?_|fail)
  exact RetO.mk (ot1 rfl rfl finS_p rfl) ⟨.box finL_p,trivial⟩
theorem rfvec_o (n:Nat) (b:List Nat) (r:RS) (hr:RfOk b r):OCall Tryz.prog 190 [.o (.ptr 1000 n 0)] (memL [(1000,(n+1,some (rfM b r)))]) (vV (vecS r).1) (memL [(1000,(n+1,some (rfM b (vecS r).2)))]):=by
 refine ocall_of1 Tryz.func190 rfl (fun w0 F S0 M0=>?_)
 have eV:vecS r=(if (allS numZ 8 r).2.2=0 then (allS numZ 8 r).1 else zeroV,(allS numZ 8 r).2):=rfl
 rw [eV]
 clear eV
 repeat' (first|refine jx5 ?_|refine jy0 ?_ ?_|exact spF|refine spQ fun hq hq'=>?_|refine spN fun hn=>?_|fail)
 refine aws_loopS [4,5,6,7,8,9,10,11,12] [1000,3] (fun (x:Nat × List Int × RS)=>[(4,.p (.i x.1))]) (fun x=>[(1000,(n+1,some (rfM b x.2.2))),(3,(1,some (.box 149 (x.2.1.map fun n=>AC.p (.k .u64 n)))))])
  (fun x=>x.1≤8∧x.2.1=(allS numZ x.1 r).1++List.replicate (8 - x.1) 0∧x.2.2=(allS numZ x.1 r).2) (fun x=>8 - x.1) (0,zeroV,r) ⟨Nat.zero_le _,rfl,rfl⟩ (by exact knA) (by exact knA) ?_
 rintro ⟨i,u,r1⟩ β γ ⟨hi,hu,h1⟩
 dsimp only at hi hu h1 ⊢
 have la:=all_len numZ i r
 have lu:u.length=8:=by rw [hu,List.length_append,List.length_replicate,la];omega
 by_cases hi8:i < 8
 ·have d1:decide ((i:Int) < 8)=true:=decide_eq_true (by omega)
  have hr1:RfOk b r1:=by rw [h1];exact (par_all par_numZ i).rf hr
  haveI b1:OC Tryz.prog 109 [.o (.ptr 1000 n 0)] [(1000,(n+1,some (rfM b r1)))] [] True (.p (.k .u64 ((numS r1).1:Int))) [(1000,(n+1,some (rfM b (numS r1).2)))]:=⟨fun _=>(rfnum_o n b r1 hr1).one 1000⟩
  have hs1:u.set (i:Int).toNat ((numS r1).1:Int)=(allS numZ (i+1) r).1++List.replicate (8 - (i+1)) 0:=by
   rw [Int.toNat_natCast,hu,show 8 - i=(8 - (i+1))+1 by omega]
   have:=set_rep (allS numZ i r).1 (8 - (i+1)) ((numS r1).1:Int) 0
   rw [la] at this
   rw [this,h1]
   rfl
  have hs2:(numS r1).2=(allS numZ (i+1) r).2:=by rw [h1];rfl
  clear hu h1
  as_aux_lemma=>
   repeat' (first|refine jx5 ?_|refine jy0 ?_ ?_|exact spF|refine spQ fun hq hq'=>?_|refine spN fun hn=>?_|fail)
   exact ⟨(i+1,u.set (i:Int).toNat ((numS r1).1:Int),(numS r1).2),_,by dsimp only;omega,⟨by dsimp only;omega,hs1,hs2⟩,.refl,by exact frA⟩
 ·have d1:decide ((i:Int) < 8)=false:=decide_eq_false (by omega)
  obtain rfl:i=8:=by omega
  rw [← h1]
  have hu':u=(allS numZ 8 r).1:=by rw [hu];simp
  rw [← hu']
  by_cases hz:r1.2=0
  ·have d2:decide (r1.2≠0)=false:=decide_eq_false fun q=>q hz
   rw [if_pos hz]
   clear hu hu' h1 hz
   as_aux_lemma=>
    repeat' (first|refine jx5 ?_|refine jy0 ?_ ?_|exact spF|refine spQ fun hq hq'=>?_|refine spN fun hn=>?_|fail)
    exact RetO.mk (oc1 rfl rfl rfl rfl rfl (by rw [List.length_map];exact lu) finL_p rfl) ⟨.box finL_p,trivial⟩
  ·have d2:decide (r1.2≠0)=true:=decide_eq_true hz
   rw [if_neg hz]
   clear hu hu' h1 hz
   as_aux_lemma=>
    repeat' (first|refine jx5 ?_|refine jy0 ?_ ?_|exact spF|refine spQ fun hq hq'=>?_|refine spN fun hn=>?_|fail)
    exact RetO.mk (oc1 rfl rfl rfl rfl rfl rfl finL_p rfl) ⟨.box finL_p,trivial⟩
end Go.Proofs.YtcbhmngagibhmaaGreat.Wi
