/- the reference, chapter 06: entries in order, one by one; entries and carts as the reference's -/
import Derived.Test.YtpgppgehhclfoaaGreatOBB89
import Derived.Test.YtpgppgehhclfoaaGreatOBB88
import Derived.Test.YtpgppgehhclfoaaGreatOBB59
import Derived.Test.YtpgppgehhclfoaaGreatOBA04
namespace Go.Proofs.YtpgppgehhclfoaaGreat.Cr
open Go Go.RowKit Go.Aw Go.Aw.Cart Go.Aw.Ord Go.Proofs.YtpgppgehhclfoaaGreat.Ca
set_option linter.unusedVariables false
set_option linter.unusedSimpArgs false
set_option maxRecDepth 8000
set_option maxHeartbeats 4000000
theorem lopC {C:Ctx} {o:Oper} {σ:St} {e:Eff} {ro:Nat→Bool} (h:LOp C o σ e ro:=by
  first|(apply gField;(focus rfl);exact lop_fieldAddr_p rfl rfl (by decide) rfl rfl)|(apply G.lop_bst2;(focus rfl);(focus exact inferInstance);(focus exact inferInstance);(focus exact inferInstance);(focus rfl);(focus rfl);(focus rfl))|(apply lop_bst4;(focus rfl);(focus exact inferInstance);(focus exact inferInstance);(focus exact inferInstance);(focus rfl);(focus rfl);(focus rfl))|(apply lop_ap_ent;(focus rfl);(focus exact inferInstance);(focus exact inferInstance);(focus exact inferInstance);(focus rfl);(focus rfl);(focus rfl);(focus rfl);(focus rfl);(focus rfl);(focus first|(simp only [maxLen,List.length_append,List.length_cons,List.length_nil,List.length_take,List.length_drop,List.length_map];omega)|omega);(focus first|(simp only [maxLen,List.length_append,List.length_cons,List.length_nil,List.length_take,List.length_drop,List.length_map];omega)|omega);(focus rfl))|exact lopV|fail):LOp C o σ e ro:=h
section steps
variable {C:Ctx} {ops:Array Oper} {o:Oper} {rest:List Oper} {K:St→Prop} {σ:St} {e:Eff} {ro:Nat→Bool} {W:List (Nat × Nat)} {i:Nat}
theorem rnC {d:Nat} (hg:Guard ops σ o true:=by first|exact gd_n rfl rfl|exact gd_t rfl rfl rfl rfl|exact gd_t rfl rfl rfl (by assumption)) (hd:o.dst=some d:=by rfl) (h:LOp C o σ e ro:=by exact lopC) (hk:RunN C ops rest K (e.app (some d) σ)):RunN C ops (o::rest) K σ:=rn_any hg hd h hk
theorem rkC {d:Nat} (hg:Guard ops σ o true:=by first|exact gd_n rfl rfl|exact gd_t rfl rfl rfl rfl|exact gd_t rfl rfl rfl (by assumption)) (hd':o.dst=some d:=by rfl) (hd:dOk C o.dst=true:=by rfl) (h:LOp C o σ e ro:=by exact lopC) (hro:∀ x,ro x=true→okObj ops W i x=true:=by first|exact fun _=>ro_none|exact ro_one rfl|exact ro_one (by kernel_rfl)|exact ro_kIn (by decide)) (hob:∀ p∈e.obj,(i,p.1)∈W:=by first|exact ob_none|exact ob_one (by decide)|decide) (hk:RunK C ops W (i+1) rest K (e.app (some d) σ)):RunK C ops W i (o::rest) K σ:=rk_wr hg hd' hd h hro hob hk
end steps
end Go.Proofs.YtpgppgehhclfoaaGreat.Cr
namespace Go.Proofs.YtpgppgehhclfoaaGreat.Sh
open Go Go.RowKit Go.Aw Go.Aw.Sha
set_option linter.unusedVariables false
set_option linter.unusedSimpArgs false
set_option maxRecDepth 8000
theorem grow_c (n:Int) (h:0≤n∧n≤1000000000000):OCall Tryz.prog 247 [.p (.v (.slice none 0 0)),.p (.i n)] (fun _=>(0,none)) (.o (.osl 22 0 1 0 0)) (memL [(22,(1,some (.buf 5 1 [])))]):=by
 refine ocall_ofF 22 Tryz.func247 rfl (fun w0 F S0 M0=>?_)
 repeat' (first|refine jx11 ?_|refine jy0 ?_ ?_|exact spF|refine spQ fun hq hq'=>?_|refine spN fun hn=>?_|fail)
 ·exfalso;omega
 ·refine rn_any (gd_n rfl rfl) rfl (lop_cap_nil rfl rfl rfl) ?_
  repeat' (first|refine jx11 ?_|refine jy2 ?_ ?_|exact spF|refine spQ fun hq hq'=>?_|fail)
  refine ifB (h1:=?_) (h2:=?_)<;>(intro hq;simp only [hqs] at hq)
  ·repeat' (first|refine jx11 ?_|refine jy0 ?_ ?_|exact spF|refine spQ fun hq hq'=>?_|refine spN fun hn=>?_|fail)
   refine rn_any (gd_n rfl rfl) rfl (lop_cap_nil rfl rfl rfl) ?_
   refine rn_any (gd_n rfl rfl) rfl (lop_sl_n0 rfl rfl rfl rfl) ?_
   repeat' (first|refine jx11 ?_|refine jy0 ?_ ?_|exact spF|refine spQ fun hq hq'=>?_|refine spN fun hn=>?_|fail)
   refine rn_any (gd_n rfl rfl) rfl (lop_ap_z (m:=n.toNat) rfl rfl rfl rfl (by omega) rfl (by decide) rfl (by omega) (by simp only [maxLen];omega) (by omega) rfl) ?_
   repeat' (first|refine jx11 ?_|refine jy0 ?_ ?_|exact spF|refine spQ fun hq hq'=>?_|refine spN fun hn=>?_|fail)
   refine rn_any (gd_n rfl rfl) rfl (lop_sl_oh rfl rfl rfl (by omega) (by omega) rfl) ?_
   repeat' (first|refine jx11 ?_|refine jy0 ?_ ?_|exact spF|refine spQ fun hq hq'=>?_|refine spN fun hn=>?_|fail)
   exact RetO.mk (ot1 rfl rfl (.one (.kosl rfl)) rfl) ⟨.buf,trivial⟩
  ·refine aws_says (says_nil (t:=0) (o:=22) (ty:=5) (es:=1) rfl rfl (by decide)) ?_
   repeat' (first|refine jx11 ?_|refine jy0 ?_ ?_|exact spF|refine spQ fun hq hq'=>?_|refine spN fun hn=>?_|fail)
   exact RetO.mk (ot1 rfl rfl (.one (.kosl rfl)) rfl) ⟨.buf,trivial⟩
instance {c k:Nat} {n:Int}:OC Tryz.prog 247 [.p (.v (.slice none 0 0)),.p (.i n)] [] [(c,k)] (0≤n∧n≤1000000000000) (.o (.osl c k 1 0 0)) [(c,(k+1,some (.buf 5 1 [])))]:=⟨fun h=>(grow_c n h).fresh1 c k⟩
abbrev pieceR (p:List Nat × Bool):List PVal:=[PVal.sl 1 (p.1.map fun n:Nat=>[PVal.k .u8 (n:Int)]) p.2]
abbrev pieces (ls:List (List Nat × Bool)) (ex:Bool):AV:=.p (.sl 1 (ls.map pieceR) ex)
def flat (ls:List (List Nat × Bool)) (i:Nat):List Nat:=(ls.take i).flatMap (·.1)
theorem flat_succ (ls:List (List Nat × Bool)) {i:Nat} (h:i < ls.length):flat ls (i+1)=flat ls i++(ls.getD i default).1:=by
 unfold flat
 rw [List.take_succ_eq_append_getElem h,List.flatMap_append]
 simp [List.getD_eq_getElem?_getD,h]
theorem flat_all (ls:List (List Nat × Bool)):flat ls ls.length=ls.flatMap (·.1):=by unfold flat;rw [List.take_length]
theorem flat_le (ls:List (List Nat × Bool)) (i:Nat):(flat ls i).length≤(ls.flatMap (·.1)).length:=by
 conv=>rhs;rw [← List.take_append_drop i ls,List.flatMap_append,List.length_append]
 exact Nat.le_add_right _ _
theorem concat_c (ls:List (List Nat × Bool)) (ex:Bool) (h:(ls.flatMap (·.1)).length≤1000000000∧ls.length≤1000000000) :
  OCall Tryz.prog 235 [pieces ls ex] (fun _=>(0,none)) (.o (.osl 24 ls.length 1 0 (ls.flatMap (·.1)).length)) (memL [(24,(ls.length+1,some (.buf 5 1 ((ls.flatMap (·.1)).map fun n:Nat=>[PVal.k .u8 (n:Int)]))))]):=by
 refine ocall_ofF 24 Tryz.func235 rfl (fun w0 F S0 M0=>?_)
 obtain ⟨hf,hl⟩:=h
 repeat' (first|refine jx11 ?_|refine jy0 ?_ ?_|exact spF|refine spQ fun hq hq'=>?_|refine spN fun hn=>?_|fail)
 refine aws_loopS [3,5,11,12,13,14,15,16,17,18,19,20,21,22] [] (fun (x:Nat × Int)=>[(11,.p (.i x.1)),(3,.p (.i x.2))]) (fun x=>[])
  (fun x=>x.1≤ls.length∧x.2=((flat ls x.1).length:Int)) (fun x=>ls.length - x.1) (0,0) ⟨Nat.zero_le _,rfl⟩ (by exact knA) (by exact knA) ?_
 rintro ⟨i,n⟩ β γ ⟨hi,hn⟩
 simp only at hi hn
 have hfl:=flat_le ls i
 have hfs:i < ls.length→(flat ls i).length+(ls.getD (i:Int).toNat default).1.length≤1000000000:=fun hlt=>by
  have h1:=flat_le ls (i+1)
  rw [flat_succ ls hlt,List.length_append] at h1
  rw [Int.toNat_natCast]
  omega
 dsimp only
 repeat' (first|refine jx11 ?_|refine jy0 ?_ ?_|exact spF|refine spQ fun hq hq'=>?_|refine spN fun hn=>?_|fail)
 ·exfalso;omega
 ·apply ex2 (i+1)
  apply Exists.intro
  refine ⟨?_,⟨?_,?_⟩,.refl,?_⟩
  rotate_left 3
  (focus exact frA)
  ·dsimp only;omega
  ·dsimp only;omega
  ·dsimp only
   rw [flat_succ ls (by omega),List.length_append,hn,Int.toNat_natCast]
   omega
 ·have hil:i=ls.length:=by omega
  refine aws_loopS (6::[6,8,27,28,29,30,31,32,33,34]) [24] (fun (x:Nat × List Nat)=>[(27,.p (.i x.1)),(6,.o (.osl 24 x.1 1 0 x.2.length))]) (fun x=>[(24,(x.1+1,some (.buf 5 1 (x.2.map fun n:Nat=>[PVal.k .u8 (n:Int)]))))])
   (fun x=>x.1≤ls.length∧x.2=flat ls x.1) (fun x=>ls.length - x.1) (0,[]) ⟨Nat.zero_le _,rfl⟩ (by exact knA) (by exact knA) ?_
  rintro ⟨k,fs⟩ β' γ' ⟨hk,hfk⟩
  simp only at hk hfk
  have hfl':=flat_le ls k
  have hfs':k < ls.length→fs.length+(ls.getD (k:Int).toNat default).1.length≤1000000000:=fun hlt=>by
   have h1:=flat_le ls (k+1)
   rw [flat_succ ls hlt,List.length_append] at h1
   rw [Int.toNat_natCast,hfk]
   omega
  dsimp only
  repeat' (first|refine jx11 ?_|refine jy0 ?_ ?_|exact spF|refine spQ fun hq hq'=>?_|refine spN fun hn=>?_|fail)
  ·apply ex2 (k+1)
   apply Exists.intro
   refine ⟨?_,⟨?_,?_⟩,.refl,?_⟩
   rotate_left 3
   (focus exact frA)
   ·dsimp only;omega
   ·dsimp only;omega
   ·dsimp only
    rw [flat_succ ls (by omega),hfk,Int.toNat_natCast]
  ·have hkl:k=ls.length:=by omega
   have hfa:fs=ls.flatMap (·.1):=by rw [hfk,hkl,flat_all]
   subst hfa hkl
   exact RetO.mk (ot1 rfl rfl (.one (.kosl rfl)) rfl) ⟨.buf,trivial⟩
instance {c k:Nat} {ls:List (List Nat × Bool)} {ex:Bool}:OC Tryz.prog 235 [pieces ls ex] [] [(c,k)] ((ls.flatMap (·.1)).length≤1000000000∧ls.length≤1000000000)
  (.o (.osl c (k+ls.length) 1 0 (ls.flatMap (·.1)).length)) [(c,(k+(ls.length+1),some (.buf 5 1 ((ls.flatMap (·.1)).map fun n:Nat=>[PVal.k .u8 (n:Int)]))))]:=⟨fun h=>(concat_c ls ex h).fresh1 c k⟩
abbrev br (n:Nat):List PVal:=[PVal.k .u8 (n:Int)]
theorem padded_c (ls:List (List Nat × Bool)) (ex:Bool) (h:(ls.flatMap (·.1)).length≤500000000∧ls.length≤1000000000) :
  PCall Tryz.prog 229 [pieces ls ex] (bytesN (pad (ls.flatMap (·.1))) false):=by
 refine pcall_of Tryz.func229 rfl (fun w0 F S0 M0=>?_)
 obtain ⟨hf,hl⟩:=h
 have hf':(ls.flatMap (·.1)).length≤1000000000:=by omega
 repeat' (first|refine jx9 ?_|refine jy0 ?_ ?_|exact spF|refine spQ fun hq hq'=>?_|refine spN fun hn=>?_|fail)
 generalize hL:(ls.flatMap (·.1))=L at hf hf' ⊢
 refine aws_loopS (3::[3,15,16,17,18,19,20,21]) [7] (fun (x:Nat × List Nat)=>[(3,.o (.osl 7 (0+(ls.length+1)+x.1) 1 0 x.2.length))]) (fun x=>[(7,(0+(ls.length+1)+x.1+1,some (.buf 5 1 (x.2.map br))))])
  (fun x=>x.1≤zeros L.length∧x.2=L++[128]++List.replicate x.1 0) (fun x=>zeros L.length - x.1) (0,L++[128]) ⟨Nat.zero_le _,by simp⟩ (by exact knA) (by exact knA) ?_
 rintro ⟨j,bs⟩ β γ ⟨hj,hb⟩
 simp only at hj hb
 have hz:zeros L.length≤63:=by unfold zeros;omega
 have hbl:bs.length=L.length+1+j:=by rw [hb];simp;omega
 have hzj:((bs.length:Int) % 64=56∧j=zeros L.length)∨(¬ (bs.length:Int) % 64=56∧j < zeros L.length):=by
  rw [hbl];unfold zeros at hj ⊢;omega
 dsimp only
 repeat' (first|refine jx12 ?_|refine jy0 ?_ ?_|exact spF|refine spQ fun hq hq'=>?_|refine spN fun hn=>?_|fail)
 ·apply ex2 (j+1)
  apply Exists.intro
  refine ⟨?_,⟨?_,?_⟩,.refl,?_⟩
  rotate_left 3
  (focus exact frA)
  ·dsimp only;omega
  ·dsimp only;omega
  ·dsimp only
   rw [hb,List.replicate_succ'];simp
 ·have hjz:j=zeros L.length:=by omega
  refine aws_loopS (3::[3,5,22,23,24,25,26,27,28,29,30,31,32,33]) [7] (fun (x:Nat × Int × List Nat)=>[(5,.p (.i x.2.1)),(3,.o (.osl 7 (0+(ls.length+1)+j+x.1) 1 0 x.2.2.length))]) (fun x=>[(7,(0+(ls.length+1)+j+x.1+1,some (.buf 5 1 (x.2.2.map br))))])
   (fun x=>x.1≤8∧x.2.1=7 - (x.1:Int)∧x.2.2=bs++(lenBytes L.length).take x.1) (fun x=>8 - x.1) (0,7,bs) ⟨Nat.zero_le _,rfl,by simp⟩ (by exact knA) (by exact knA) ?_
  rintro ⟨k,t,cs⟩ β' γ' ⟨hk,ht,hc⟩
  simp only at hk ht hc
  have hll:(lenBytes L.length).length=8:=by simp [lenBytes]
  have hcl:cs.length=bs.length+k:=by rw [hc,List.length_append,List.length_take,hll];omega
  dsimp only
  repeat' (first|refine jx9 ?_|refine jy0 ?_ ?_|exact spF|refine spQ fun hq hq'=>?_|refine spN fun hn=>?_|fail)
  ·apply ex3 (k+1) (t - 1)
   apply Exists.intro
   refine ⟨?_,⟨?_,?_,?_⟩,.refl,?_⟩
   rotate_left 4
   (focus exact frA)
   ·dsimp only;omega
   ·dsimp only;omega
   ·dsimp only;omega
   ·have e:(8 * t).toNat=8 * (7 - k):=by omega
    have em:L.length % md .u64=L.length:=Nat.mod_eq_of_lt (by show L.length < 18446744073709551616;omega)
    dsimp only
    rw [hc,e,em,List.append_assoc,List.take_succ_eq_append_getElem (by rw [hll];omega)]
    simp only [lenBytes,List.getElem_map,List.getElem_range]
    rfl
  ·have hk8:k=8:=by omega
   refine rt1 rfl rfl (.one (finC_map rfl rfl rfl rfl)) (rs ?_)
   rw [hc,hb,hjz,hk8,List.take_of_length_le (by rw [hll];omega)]
   rfl
instance {ls:List (List Nat × Bool)} {ex:Bool}:PC Tryz.prog 229 [pieces ls ex] ((ls.flatMap (·.1)).length≤500000000∧ls.length≤1000000000) (bytesN (pad (ls.flatMap (·.1))) false):=⟨padded_c ls ex⟩
abbrev bytesP (l:List Nat) (ex:Bool):PVal:=.sl 1 (l.map br) ex
theorem chunk_c (b:List Nat) (ex:Bool) (n:Int) (h:1≤n):PCall Tryz.prog 228 [bytesN b ex,.p (.i n)] (.p (.fnv 234 [.bx [bytesP b ex] 0,.bx [.i n] 0])):=by
 refine pcall_of Tryz.func228 rfl (fun w0 F S0 M0=>?_)
 repeat' (first|refine jx11 ?_|refine jy0 ?_ ?_|exact spF|refine spQ fun hq hq'=>?_|refine spN fun hn=>?_|fail)
 ·exfalso;omega
 ·exact rt1 rfl rfl finS_p rfl
instance {b:List Nat} {ex:Bool} {n:Int}:PC Tryz.prog 228 [bytesN b ex,.p (.i n)] (1≤n) (.p (.fnv 234 [.bx [bytesP b ex] 0,.bx [.i n] 0])):=⟨chunk_c b ex n⟩
def chunkAt (b:List Nat) (n i:Nat):List Nat:=(b.drop (n * i)).take n
set_option maxHeartbeats 1000000 in
theorem chunks_c (b:List Nat) (ex:Bool) (m:Nat) (h:b.length=64 * m) (hb:b.length≤1000000000):ICall Tryz.prog 234 [.bx [bytesP b ex] 0,.bx [.i 64] 0] ((List.range m).map fun i=>bytesN (chunkAt b 64 i) true):=by
 refine icall_of Tryz.func234 rfl (fun w0 F S0 M0 I yv hone hY=>?_)
 simp only [List.length_map,List.length_range]
 repeat' (first|refine jx11 ?_|refine jy0 ?_ ?_|exact spF|refine spQ fun hq hq'=>?_|refine spN fun hn=>?_|fail)
 refine aws_loopS [4,5,6,7,8,9,10,11,12,13,14,15,16,17,18,19,20,21,22,23,24,25,26,27,28,29,30] [1000] (fun (x:Nat × Int)=>[(4,.p (.i x.2))]) (fun x=>[(1000,(1,some (.abs (I x.1))))])
  (fun x=>x.1≤m∧x.2=64 * (x.1:Int)) (fun x=>m - x.1) (0,0) ⟨Nat.zero_le _,rfl⟩ (by exact knA) (by exact knA) ?_
 rintro ⟨i,t⟩ β γ ⟨hi,ht⟩
 simp only at hi ht
 dsimp only
 repeat' (first|refine jx11 ?_|refine jy0 ?_ ?_|exact spF|refine spQ fun hq hq'=>?_|refine spN fun hn=>?_|fail)
 ·have him:i < m:=by omega
  have hdl:(b.drop t.toNat).length=64 * (m - i):=by rw [List.length_drop,h];omega
  refine aws_draws [] mixed (by kernel_rfl) ?_
  repeat' (first|refine jx13 ?_|refine jy1 ?_ ?_|exact spF|refine spQ fun hq hq'=>?_|fail)
  repeat' (first|refine jx11 ?_|refine jy0 ?_ ?_|exact spF|refine spQ fun hq hq'=>?_|refine spN fun hn=>?_|fail)
  refine rn_any (gd_n rfl rfl) rfl (lop_yield (av:=bytesN (chunkAt b 64 i) true) (m0:=(1,some (.abs (I i)))) (m1:=(1,some (.abs (I (i+1))))) rfl rfl (rs ?_) rfl (hY i _ (by simp [him])) rfl) ?_
  ·show _=(b.drop (64 * i)).take 64
   rw [show t.toNat=64 * i by omega] at hdl ⊢
   congr 1
   simp only [hdl] at *
   omega
  repeat' (first|refine jx11 ?_|refine jy0 ?_ ?_|exact spF|refine spQ fun hq hq'=>?_|refine spN fun hn=>?_|fail)
  apply ex2 (i+1)
  apply Exists.intro
  refine ⟨?_,⟨?_,?_⟩,.refl,?_⟩
  rotate_left 3
  (focus exact frA)
  ·dsimp only;omega
  ·dsimp only;omega
  ·dsimp only;omega
 ·have him:i=m:=by omega
  subst him
  show RetO _ _ _ _ _ .ret _
  exact RetO.mk (res0 rfl rfl) ⟨.abs,trivial⟩
theorem pad_len (b:List Nat):(pad b).length=b.length+1+zeros b.length+8:=by simp [pad,lenBytes];omega
theorem pad_64 (b:List Nat):(pad b).length=64 * ((pad b).length / 64):=by rw [pad_len];unfold zeros;omega
theorem blocks_succ (P:List Nat) (j:Nat):blocks P (j+1)=block (blocks P j) (chunkAt P 64 j):=rfl
theorem blocks_zero (P:List Nat):firstV=blocks P 0:=rfl
theorem sum_def (b:List Nat):sum b=digest (blocks (pad b) ((pad b).length / 64)):=rfl
theorem Agr.put' {σ τ:St} {W M:List Nat} {o:Nat} {m:Nat × Option MO} (h:Agr σ W (o::M) τ):Agr (σ.put o m) W M (τ.put o m):=⟨h.env,fun t ht=>by
 by_cases e:t=o
 ·subst e;simp [St.put]
 ·have hb:Nat.beq t o=false:=Bool.eq_false_iff.2 (fun k=>e (Nat.eq_of_beq_eq_true k))
  have:=h.mem t (by simp only [memb,hb,ht,Bool.or_self])
  simp [St.put,e,this]⟩
attribute [local irreducible] pad blocks block sum
theorem sum_c (ls:List (List Nat × Bool)) (ex:Bool) (h:(ls.flatMap (·.1)).length≤500000000∧ls.length≤1000000000) :
  PCall Tryz.prog 218 [pieces ls ex] (.a ((sum (ls.flatMap (·.1))).map bc)):=by
 refine pcall_of Tryz.func218 rfl (fun w0 F S0 M0=>?_)
 have hp:(pad (ls.flatMap (·.1))).length≤1000000000:=by rw [pad_len];unfold zeros;omega
 have hp64:=pad_64 (ls.flatMap (·.1))
 have hsum:sum (ls.flatMap (·.1))=digest (blocks (pad (ls.flatMap (·.1))) ((pad (ls.flatMap (·.1))).length / 64)):=sum_def _
 repeat' (first|refine jx11 ?_|refine jy0 ?_ ?_|exact spF|refine spQ fun hq hq'=>?_|refine spN fun hn=>?_|fail)
 generalize hP:pad (ls.flatMap (·.1))=P at hp hp64 hsum ⊢
 refine aws_block ?_
 refine aws_range (ι:=V8) [9,4,10,11,12] [3] (fun v=>[(3,(1,some (.box 296 (v8 v))))]) (fun j v=>v=blocks P j) firstV rfl inferInstance (chunks_c P false (P.length / 64) hp64 hp) rfl ?_ rfl rfl (fun i=>rfl) rfl (blocks_zero P) (by exact knA) ?_ ?_
 ·intro x hx
  simp only [List.mem_map] at hx
  obtain ⟨i,_,rfl⟩:=hx
  exact inferInstance
 ·intro j x hjx v γ w0 F S0 M0 l R R' hv
  rw [List.getElem?_map] at hjx
  have hj:j < P.length / 64:=by
   by_cases hlt:j < P.length / 64
   ·exact hlt
   ·rw [List.getElem?_eq_none (by simp;omega)] at hjx;cases hjx
  rw [List.getElem?_range hj] at hjx
  obtain rfl:=Option.some.inj hjx
  have hcl:(chunkAt P 64 j).length=64:=by simp only [chunkAt,List.length_take,List.length_drop];omega
  have hvo:v.ok:=by rw [hv];exact blocks_ok P j
  obtain ⟨B,hB⟩:∃ B,B=block v (chunkAt P 64 j):=⟨_,rfl⟩
  have hbc:PCall Tryz.prog 230 [.a (v8 v),bytesN (chunkAt P 64 j) true] (.a (v8 B)):=by rw [hB];exact block_c v _ true hcl hvo
  haveI:PC Tryz.prog 230 [.a (v8 v),bytesN (chunkAt P 64 j) true] True (.a (v8 B)):=⟨fun _=>hbc⟩
  repeat' (first|refine jx11 ?_|refine jy0 ?_ ?_|exact spF|refine spQ fun hq hq'=>?_|refine spN fun hn=>?_|fail)
  refine ⟨rfl,rfl,?_⟩
  repeat' (first|refine jx11 ?_|refine jy0 ?_ ?_|exact spF|refine spQ fun hq hq'=>?_|refine spN fun hn=>?_|fail)
  refine ⟨rfl,B,_,?_,.refl,Fr'.mk ?_ (by exact knA) (by exact knA)⟩
  rotate_left 1
  ·repeat' (first|exact Agr.refl|refine Agr.appg rfl rfl ?_|refine Agr.appgn rfl ?_|refine Agr.set rfl ?_|refine Agr.put rfl ?_|refine Agr.put' ?_|refine Agr.fr ?_ (memb_sub rfl) (memb_sub rfl) rfl rfl)
  ·show B=blocks P (j+1)
   rw [blocks_succ,← hv,hB]
 ·intro v γ hv
  simp only [List.length_map,List.length_range] at hv
  repeat' (first|refine jx11 ?_|refine jy0 ?_ ?_|exact spF|refine spQ fun hq hq'=>?_|refine spN fun hn=>?_|fail)
  refine rc1 rfl rfl rfl rfl rfl (by simp [digest]) finL_p ?_
  rw [hsum,← hv]
end Go.Proofs.YtpgppgehhclfoaaGreat.Sh
namespace Go.Proofs.YtpgppgehhclfoaaGreat.Sh
open Go Go.RowKit Go.Aw Go.Aw.Sha
set_option linter.unusedVariables false
set_option linter.unusedSimpArgs false
set_option maxRecDepth 8000
attribute [local irreducible] sum
theorem sum1_c (l:List Nat) (e1 e:Bool) (h:l.length≤500000000):PCall Tryz.prog 218 [.p (.sl 1 [[bytesP l e1]] e)] (.a ((sum l).map bc)):=by
 have:=sum_c [(l,e1)] e ⟨by simpa using h,by simp⟩
 rwa [show ([(l,e1)]:List (List Nat × Bool)).flatMap (·.1)=l by simp] at this
end Go.Proofs.YtpgppgehhclfoaaGreat.Sh
namespace Go.Proofs.YtpgppgehhclfoaaGreat.Rg
open Go Go.RowKit Go.Aw Go.Aw.Sha Go.Aw.Cart Go.Aw.Ord Go.Sort Go.Proofs.YtpgppgehhclfoaaGreat.Ca Go.Proofs.YtpgppgehhclfoaaGreat.Sh
set_option linter.unusedVariables false
set_option linter.unusedSimpArgs false
set_option maxRecDepth 8000
set_option maxHeartbeats 4000000
attribute [local irreducible] sum
def pv (S:List Nat):Nat→Nat
 | 0=>0
 | j+1=>pv S j * 256+S.getD j default
def pointF (b:List Nat):Nat:=pv (sum b) 8
theorem sum_okB (b:List Nat):okB (sum b):=by
 unfold sum digest
 intro x hx
 obtain ⟨i,_,rfl⟩:=List.mem_map.1 hx
 exact Nat.mod_lt _ (by decide)
theorem getD_ok {S:List Nat} (h:okB S) (j:Nat):S.getD j default < 256:=by
 rw [List.getD_eq_getElem?_getD]
 cases hj:S[j]? with
 | none=>exact (by decide:0 < 256)
 | some x=>exact h x (List.mem_of_getElem? hj)
theorem pv_lt {S:List Nat} (h:okB S):∀ j,pv S j < 256 ^ j
 | 0=>Nat.one_pos
 | j+1=>by
  have:=pv_lt h j
  have:=getD_ok h j
  rw [pv,Nat.pow_succ];omega
theorem pv_fit {S:List Nat} (h:okB S) {j:Nat} (hj:j≤8):pv S j < 18446744073709551616:=
 Nat.lt_of_lt_of_le (pv_lt h j) (show 256 ^ j≤256 ^ 8 from Nat.pow_le_pow_right (by decide) hj)
theorem byte_in {a c M:Nat} (ha:a * 256+c < M) (hc:c < 256):((a * 256) % M % M||| c % M % M)=a * 256+c:=by
 have h1:c < M:=by omega
 have h2:a * 256 < M:=Nat.lt_of_le_of_lt (Nat.le_add_right _ c) ha
 rw [Nat.mod_eq_of_lt h1,Nat.mod_eq_of_lt h1,Nat.mod_eq_of_lt h2,Nat.mod_eq_of_lt h2]
 have:=Nat.shiftLeft_add_eq_or_of_lt (i:=8) (show c < 2 ^ 8 from hc) a
 rw [Nat.shiftLeft_eq] at this
 exact this.symm
theorem lop_sl_arh {C:Ctx} {o:Oper} {σ:St} {T e:TypeId} {x y:Operand} {n sz by_:Nat} {ke:TK} {sze be:Nat} {ob g off:Nat} {k:IntKind} {m:Int} (ho:o.op=.slice T x none (some y) none) (hT:TI C.P T (.array n e) sz by_) (he:TI C.P e ke sze be) (hx:σ.look x=.o (.ptr ob g off)) (hy:σ.look y=.p (.v (.int k m))) (h0:0≤m) (hm:m≤n) (hd:dOk C o.dst=true) :
  LOp C o σ ⟨.o (.asl ob g off m.toNat n),[]⟩ (fun _=>false):=
 lop_val hd fun τ a w G hl hm' h=>by
  obtain ⟨b,c,h1,h2⟩:=look_of h ((hl x (by simp [ho,Op.operands])).trans hx)
  have e2:=val_of h ((hl y (by simp [ho,Op.operands])).trans hy)
  obtain ⟨d,hdd,hk⟩:=hT.undd
  have:d=.array n e:=by cases d<;>simp [TK.of] at hk;rw [hk.1,hk.2]
  subst this
  refine ⟨.slice (some ⟨b,off,none⟩) m.toNat n,?_,b,c,h1,rfl⟩
  simp [execOp,ho,h2,e2,Instr.sliceAt,Instr.sureAddr,run_underlying hdd,Instr.sliceBounds,run_sb (y:=n) h0 hm,he.run_sizeOf,Addr.add]
namespace P6
theorem lopC {C:Ctx} {o:Oper} {σ:St} {e:Eff} {ro:Nat→Bool} (h:LOp C o σ e ro:=by
  first
   | exact lop_wadd' rfl rfl rfl (by with_reducible (first|rfl|exact lit_nat _|exact ofn_nat _)) (by with_reducible (first|rfl|exact lit_nat _|exact ofn_nat _)) rfl rfl
      | exact lop_wmul' rfl rfl rfl (by with_reducible (first|rfl|exact lit_nat _|exact ofn_nat _)) (by with_reducible (first|rfl|exact lit_nat _|exact ofn_nat _)) rfl rfl
      | exact lop_wsub' rfl rfl rfl (by with_reducible (first|rfl|exact lit_nat _|exact ofn_nat _)) (by with_reducible (first|rfl|exact lit_nat _|exact ofn_nat _)) rfl rfl
      | exact lop_wquo' rfl rfl rfl (by with_reducible (first|rfl|exact lit_nat _|exact ofn_nat _)) (by with_reducible (first|rfl|exact lit_nat _|exact ofn_nat _)) (by decide) rfl rfl
      | exact lop_wrem' rfl rfl rfl (by with_reducible (first|rfl|exact lit_nat _|exact ofn_nat _)) (by with_reducible (first|rfl|exact lit_nat _|exact ofn_nat _)) (by decide) rfl
      | exact lop_wand' rfl rfl rfl (by with_reducible (first|rfl|exact lit_nat _|exact ofn_nat _)) (by with_reducible (first|rfl|exact lit_nat _|exact ofn_nat _)) rfl rfl
      | exact lop_wor' rfl rfl rfl (by with_reducible (first|rfl|exact lit_nat _|exact ofn_nat _)) (by with_reducible (first|rfl|exact lit_nat _|exact ofn_nat _)) rfl rfl
      | exact lop_wxor' rfl rfl rfl (by with_reducible (first|rfl|exact lit_nat _|exact ofn_nat _)) (by with_reducible (first|rfl|exact lit_nat _|exact ofn_nat _)) rfl rfl
      | exact lop_wnot' rfl rfl (by with_reducible (first|rfl|exact lit_nat _|exact ofn_nat _)) rfl rfl
      | exact lop_wshr' rfl rfl (by with_reducible (first|rfl|exact lit_nat _|exact ofn_nat _)) rfl (by first|decide|omega) (by first|decide|(simp only [IntKind.bits];omega)) rfl
      | exact lop_wshl' rfl rfl (by with_reducible (first|rfl|exact lit_nat _|exact ofn_nat _)) rfl (by first|decide|omega) (by first|decide|(simp only [IntKind.bits];omega)) rfl rfl
      | (apply lop_wconv';(focus rfl);(focus exact inferInstance);(focus exact inferInstance);(focus rfl);(focus exact (by with_reducible (first|rfl|exact lit_nat _|exact ofn_nat _)));(focus rfl);(focus rfl))
   | (apply lop_sl_arh;(focus rfl);(focus exact inferInstance);(focus exact inferInstance);(focus rfl);(focus rfl);(focus decide);(focus decide);(focus rfl))
   | exact lop_len_asl rfl rfl rfl
   | exact lopQ
   | fail):LOp C o σ e ro:=h
section steps
variable {C:Ctx} {ops:Array Oper} {o:Oper} {rest:List Oper} {K:St→Prop} {σ:St} {e:Eff} {ro:Nat→Bool} {W:List (Nat × Nat)} {i:Nat}
theorem rnC {d:Nat} (hg:Guard ops σ o true:=by first|exact gd_n rfl rfl|exact gd_t rfl rfl rfl rfl|exact gd_t rfl rfl rfl (by assumption)) (hd:o.dst=some d:=by rfl) (h:LOp C o σ e ro:=by exact lopC) (hk:RunN C ops rest K (e.app (some d) σ)):RunN C ops (o::rest) K σ:=rn_any hg hd h hk
theorem rkC {d:Nat} (hg:Guard ops σ o true:=by first|exact gd_n rfl rfl|exact gd_t rfl rfl rfl rfl|exact gd_t rfl rfl rfl (by assumption)) (hd':o.dst=some d:=by rfl) (hd:dOk C o.dst=true:=by rfl) (h:LOp C o σ e ro:=by exact lopC) (hro:∀ x,ro x=true→okObj ops W i x=true:=by first|exact fun _=>ro_none|exact ro_one rfl|exact ro_one (by kernel_rfl)|exact ro_kIn (by decide)) (hob:∀ p∈e.obj,(i,p.1)∈W:=by first|exact ob_none|exact ob_one (by decide)|decide) (hk:RunK C ops W (i+1) rest K (e.app (some d) σ)):RunK C ops W i (o::rest) K σ:=rk_wr hg hd' hd h hro hob hk
end steps
end P6
open P6
theorem shaPoint_w (b:List Nat) (ex:Bool) (h:b.length≤500000000):PCall Tryz.prog 206 [bytesN b ex] (.p (.k .u64 (pointF b:Int))):=by
 refine pcall_of Tryz.func206 rfl (fun w0 F S0 M0=>?_)
 obtain ⟨S,hS⟩:∃ S,S=sum b:=⟨_,rfl⟩
 have hSl:S.length=32:=by rw [hS];exact sum_len b
 have hSo:okB S:=by rw [hS];exact sum_okB b
 haveI:PC Tryz.prog 218 [.p (.sl 1 [[bytesP b ex]] true)] True (.a (S.map bc)):=⟨fun _=>by rw [hS];exact sum1_c b ex true h⟩
 rw [show pointF b=pv S 8 by rw [hS];rfl]
 clear hS
 repeat' (first|refine jx5 ?_|refine jy0 ?_ ?_|exact spF|refine spQ fun hq hq'=>?_|refine spN fun hn=>?_|fail)
 refine aws_loopS [3,6,12,13,14,15,16,17,18,19,20,21] [] (fun (i:Nat)=>[(12,.p (.i i)),(3,.p (.k .u64 (pv S i:Int)))]) (fun _=>[]) (fun i=>i≤8) (fun i=>8 - i) 0 (Nat.zero_le _) (by exact knA) (by exact knA) ?_
 rintro i β γ hi
 by_cases hil:i < 8
 ·have d1:decide ((i:Int) < 8)=true:=decide_eq_true (by omega)
  as_aux_lemma=>
   repeat' (first|refine jx5 ?_|refine jy0 ?_ ?_|exact spF|refine spQ fun hq hq'=>?_|refine spN fun hn=>?_|fail)
   refine ⟨i+1,_,by omega,(by show i+1≤8;omega),.refl,?_⟩
   have e:pv S (i+1)=(pv S i * 2 ^ (8:Int).toNat) % md .u64 % md .u64||| S.getD (i:Int).toNat default % md .u64 % md .u64:=by
    rw [pv,Int.toNat_natCast]
    exact (byte_in (M:=md .u64) (by have:=pv_fit hSo (show i+1≤8 by omega);rwa [pv] at this) (getD_ok hSo i)).symm
   try dsimp only
   rw [e]
   exact frA
 ·have d1:decide ((i:Int) < 8)=false:=decide_eq_false (by omega)
  obtain rfl:i=8:=by omega
  as_aux_lemma=>
   repeat' (first|refine jx5 ?_|refine jy0 ?_ ?_|exact spF|refine spQ fun hq hq'=>?_|refine spN fun hn=>?_|fail)
   exact rt1 rfl rfl finS_p rfl
end Go.Proofs.YtpgppgehhclfoaaGreat.Rg
namespace Go.Aw
open Go Go.RowKit
set_option linter.unusedVariables false
set_option linter.unusedSimpArgs false
def cellH (X:Wd) (tyB es:Nat) (r:Option (List (List PVal))) (v:Value) (f:List Nat):Prop:=
 match r with
 | some rows=>∃ m c,v=.slice (m.map fun b=>(⟨b,0,none⟩:Addr)) rows.length c∧(MO.buf tyB es rows).holds Mu.none X (m,c) f
 | none=>v.oneCell'=true∧f=[]
theorem cellH.mono {x y:Wd} {tyB es:Nat} {r:Option (List (List PVal))} {v:Value} {f:List Nat} (hle:x.le y) (hf:∀ k,k∈f→y.w.heap[k]?=x.w.heap[k]?) (h:cellH x tyB es r v f):cellH y tyB es r v f:=by
 cases r with
 | none=>exact h
 | some rows=>obtain ⟨m,c,h1,h2⟩:=h;exact ⟨m,c,h1,h2.mono (Mu.le.refl _) hle hf⟩
theorem cellH.one {X:Wd} {tyB es:Nat} {r:Option (List (List PVal))} {v:Value} {f:List Nat} (h:cellH X tyB es r v f):v.oneCell'=true:=by
 cases r with
 | none=>exact h.1
 | some rows=>obtain ⟨m,c,rfl,_⟩:=h;rfl
theorem RelG.split {C:Ctx} {σ:St} {a:Act} {w:World} {G:Gh} (h:RelG C σ a w G) {o d n nd:Nat} {mo0 mod0:Option MO} {moo mod:MO} {m:Option Nat × Nat} {fo fd:List Nat} (hne:d≠o) (ho:σ.mem o=(n,mo0)) (hd:σ.mem d=(nd,mod0))
  (hfo:∀ b,b∈fo→b∈G.φ o) (hfd:∀ b,b∈fd→b∈G.φ o) (hdis:∀ b,b∈fo→b∈fd→False)
  (hO:∃ g mm,n=g+1∧(G.μ o)[g]?=some mm∧moo.holds (fun x=>if x=d then G.μ d++[m] else G.μ x) ⟨w,G.S⟩ mm fo) (hD:mod.holds (fun x=>if x=d then G.μ d++[m] else G.μ x) ⟨w,G.S⟩ m fd) :
  RelG C ((σ.put d (nd+1,some mod)).put o (n,some moo)) a w ⟨fun x=>if x=d then G.μ d++[m] else G.μ x,G.S,fun x=>if x=d then fd else if x=o then fo else G.φ x⟩:=by
 have hlen:(G.μ d).length=nd:=by have:=h.gens d;rw [hd] at this;exact this
 have hmu:G.μ.le (fun x=>if x=d then G.μ d++[m] else G.μ x):=mu_le
 have hfp:∀ {x k},k∈(if x=d then fd else if x=o then fo else G.φ x)→k∈G.φ (if x=d then o else x)∧(x=d→k∈fd)∧(x=o→k∈fo):=fun {x k} hk=>by
  by_cases hx:x=d
  ·rw [if_pos hx] at hk
   exact ⟨by rw [if_pos hx];exact hfd k hk,fun _=>hk,fun e=>absurd (hx.symm.trans e) hne⟩
  ·rw [if_neg hx] at hk
   rw [if_neg hx]
   by_cases hxo:x=o
   ·rw [if_pos hxo] at hk
    exact ⟨by rw [hxo];exact hfo k hk,fun e=>absurd e hx,fun _=>hk⟩
   ·rw [if_neg hxo] at hk
    exact ⟨hk,fun e=>absurd e hx,fun e=>absurd e hxo⟩
 exact {
  size:=h.size
  defers:=fun e he=>by
   obtain ⟨b',rfl,h1,h2,h3,h4,h5⟩:=h.defers e he
   exact ⟨b',rfl,h1,h2,h3,h4,fun x hx=>h5 _ (hfp hx).1⟩
  dnod:=h.dnod
  mle:=h.mle.trans hmu
  env:=fun t=>(h.env t).mono hmu (Wd.le.refl _)
  gens:=fun x=>by
   by_cases hx:x=d
   ·subst hx;simp [St.put,hne,hlen]
   ·by_cases hxo:x=o
    ·subst hxo;have:=h.gens x;rw [ho] at this;simpa [St.put,hx] using this
    ·simpa [St.put,hx,hxo] using h.gens x
  mem:=fun x n' mo' hx=>by
   by_cases hxo:x=o
   ·subst hxo
    simp only [St.put,if_true,Prod.mk.injEq] at hx
    obtain ⟨rfl,hx⟩:=hx
    obtain rfl:=Option.some.inj hx
    obtain ⟨g,mm,e1,e2,e3⟩:=hO
    exact ⟨g,mm,e1,by simpa [hne.symm] using e2,by simpa [hne.symm] using e3⟩
   ·by_cases hxd:x=d
    ·subst hxd
     simp only [St.put,hxo,if_false,if_true,Prod.mk.injEq] at hx
     obtain ⟨rfl,hx⟩:=hx
     obtain rfl:=Option.some.inj hx
     exact ⟨nd,m,rfl,by simp [← hlen],by simpa using hD⟩
    ·simp only [St.put,hxd,hxo,if_false] at hx
     obtain ⟨g,m2,hn,hm2,hh⟩:=h.mem x n' mo' hx
     refine ⟨g,m2,hn,by simpa [hxd] using hm2,?_⟩
     simp only [hxo,hxd,if_false]
     exact hh.mono hmu (Wd.le.refl _) fun k hk=>rfl
  apart:=fun x y b' hxy hbx hby=>by
   have h1:=hfp hbx
   have h2:=hfp hby
   by_cases hx:x=d<;>by_cases hy:y=d
   ·exact hxy (hx.trans hy.symm)
   ·by_cases hyo:y=o
    ·exact hdis b' (h2.2.2 hyo) (h1.2.1 hx)
    ·have a1:=h1.1;have a2:=h2.1
     rw [if_pos hx] at a1;rw [if_neg hy] at a2
     exact h.apart o y b' (Ne.symm hyo) a1 a2
   ·by_cases hxo:x=o
    ·exact hdis b' (h1.2.2 hxo) (h2.2.1 hy)
    ·have a1:=h1.1;have a2:=h2.1
     rw [if_neg hx] at a1;rw [if_pos hy] at a2
     exact h.apart x o b' hxo a1 a2
   ·have a1:=h1.1;have a2:=h2.1
    rw [if_neg hx] at a1;rw [if_neg hy] at a2
    exact h.apart x y b' hxy a1 a2
  stab:=fun x b' hb=>h.stab _ b' (hfp hb).1
  own:=fun x b' hb=>h.own _ b' (hfp hb).1
  sbd:=h.sbd
  ssub:=h.ssub
  fr:=h.fr }
section ops
variable {C:Ctx} {o:Oper} {σ:St}
end ops
end Go.Aw
