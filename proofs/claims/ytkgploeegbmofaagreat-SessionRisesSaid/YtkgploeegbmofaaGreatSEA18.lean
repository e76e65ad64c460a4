/- SHA-256, the program's: what is padded. -/
import Derived.Test.YtkgploeegbmofaaGreatSEA16
import Derived.Test.YtkgploeegbmofaaGreatSEA43
import Derived.Test.YtkgploeegbmofaaGreatSEA10
import Derived.Test.YtkgploeegbmofaaGreatSEA09
import Derived.Test.YtkgploeegbmofaaGreatSEA14
namespace Go.Proofs.YtkgploeegbmofaaGreat.Sh
open Go Go.RowKit Go.Aw Go.Aw.Sha
set_option linter.unusedVariables false
set_option linter.unusedSimpArgs false
set_option maxRecDepth 8000
theorem grow_c (n:Int) (h:0≤n∧n≤1000000000000):OCall Tryz.prog 190 [.p (.v (.slice none 0 0)),.p (.i n)] (fun _=>(0,none)) (.o (.osl 22 0 1 0 0)) (memL [(22,(1,some (.buf 5 1 [])))]):=by
 refine ocall_ofF 22 Tryz.func190 rfl (fun w0 F S0 M0=>?_)
 repeat' (first|refine jx11 ?_|refine jy0 ?_ ?_|exact spF|refine spQ fun hq hq'=>?_|refine spN fun hn=>?_|fail)
 ·exfalso;omega
 ·refine rn_any (gd_n rfl rfl) rfl (lop_cap_nil rfl rfl rfl) ?_
  repeat' (first|refine jx11 ?_|refine jy2 ?_ ?_|exact spF|refine spQ fun hq hq'=>?_|fail)
  refine ifB (h1:=?_) (h2:=?_)<;>(intro hq;simp only [hqs] at hq)
  ·repeat' (first|refine jx11 ?_|refine jy0 ?_ ?_|exact spF|refine spQ fun hq hq'=>?_|refine spN fun hn=>?_|fail)
   refine rn_any (gd_n rfl rfl) rfl (lop_cap_nil rfl rfl rfl) ?_
   refine rn_any (gd_n rfl rfl) rfl (lop_sl_n0 rfl rfl rfl rfl) ?_
   repeat' (first|refine jx11 ?_|refine jy0 ?_ ?_|exact spF|refine spQ fun hq hq'=>?_|refine spN fun hn=>?_|fail)
   refine rn_any (gd_n rfl rfl) rfl (lop_ap_z (m:=n.toNat) rfl rfl rfl rfl (by omega) rfl (by decide) rfl (by omega) (by simp only [maxLen];omega) (by omega) rfl) ?_
   repeat' (first|refine jx11 ?_|refine jy0 ?_ ?_|exact spF|refine spQ fun hq hq'=>?_|refine spN fun hn=>?_|fail)
   refine rn_any (gd_n rfl rfl) rfl (lop_sl_oh rfl rfl rfl (by omega) (by omega) rfl) ?_
   repeat' (first|refine jx11 ?_|refine jy0 ?_ ?_|exact spF|refine spQ fun hq hq'=>?_|refine spN fun hn=>?_|fail)
   exact RetO.mk (ot1 rfl rfl (.one (.kosl rfl)) rfl) ⟨.buf,trivial⟩
  ·refine aws_says (says_nil (t:=0) (o:=22) (ty:=5) (es:=1) rfl rfl (by decide)) ?_
   repeat' (first|refine jx11 ?_|refine jy0 ?_ ?_|exact spF|refine spQ fun hq hq'=>?_|refine spN fun hn=>?_|fail)
   exact RetO.mk (ot1 rfl rfl (.one (.kosl rfl)) rfl) ⟨.buf,trivial⟩
instance {c k:Nat} {n:Int}:OC Tryz.prog 190 [.p (.v (.slice none 0 0)),.p (.i n)] [] [(c,k)] (0≤n∧n≤1000000000000) (.o (.osl c k 1 0 0)) [(c,(k+1,some (.buf 5 1 [])))]:=⟨fun h=>(grow_c n h).fresh1 c k⟩
abbrev pieceR (p:List Nat × Bool):List PVal:=[PVal.sl 1 (p.1.map fun n:Nat=>[PVal.k .u8 (n:Int)]) p.2]
abbrev pieces (ls:List (List Nat × Bool)) (ex:Bool):AV:=.p (.sl 1 (ls.map pieceR) ex)
def flat (ls:List (List Nat × Bool)) (i:Nat):List Nat:=(ls.take i).flatMap (·.1)
theorem flat_succ (ls:List (List Nat × Bool)) {i:Nat} (h:i < ls.length):flat ls (i+1)=flat ls i++(ls.getD i default).1:=by
 unfold flat
 rw [List.take_succ_eq_append_getElem h,List.flatMap_append]
 simp [List.getD_eq_getElem?_getD,h]
theorem flat_all (ls:List (List Nat × Bool)):flat ls ls.length=ls.flatMap (·.1):=by unfold flat;rw [List.take_length]
theorem flat_le (ls:List (List Nat × Bool)) (i:Nat):(flat ls i).length≤(ls.flatMap (·.1)).length:=by
 conv=>rhs;rw [← List.take_append_drop i ls,List.flatMap_append,List.length_append]
 exact Nat.le_add_right _ _
theorem concat_c (ls:List (List Nat × Bool)) (ex:Bool) (h:(ls.flatMap (·.1)).length≤1000000000∧ls.length≤1000000000) :
  OCall Tryz.prog 174 [pieces ls ex] (fun _=>(0,none)) (.o (.osl 24 ls.length 1 0 (ls.flatMap (·.1)).length)) (memL [(24,(ls.length+1,some (.buf 5 1 ((ls.flatMap (·.1)).map fun n:Nat=>[PVal.k .u8 (n:Int)]))))]):=by
 refine ocall_ofF 24 Tryz.func174 rfl (fun w0 F S0 M0=>?_)
 obtain ⟨hf,hl⟩:=h
 repeat' (first|refine jx11 ?_|refine jy0 ?_ ?_|exact spF|refine spQ fun hq hq'=>?_|refine spN fun hn=>?_|fail)
 refine aws_loopS [3,5,11,12,13,14,15,16,17,18,19,20,21,22] [] (fun (x:Nat × Int)=>[(11,.p (.i x.1)),(3,.p (.i x.2))]) (fun x=>[])
  (fun x=>x.1≤ls.length∧x.2=((flat ls x.1).length:Int)) (fun x=>ls.length - x.1) (0,0) ⟨Nat.zero_le _,rfl⟩ (by exact knA) (by exact knA) ?_
 rintro ⟨i,n⟩ β γ ⟨hi,hn⟩
 simp only at hi hn
 have hfl:=flat_le ls i
 have hfs:i < ls.length→(flat ls i).length+(ls.getD (i:Int).toNat default).1.length≤1000000000:=fun hlt=>by
  have h1:=flat_le ls (i+1)
  rw [flat_succ ls hlt,List.length_append] at h1
  rw [Int.toNat_natCast]
  omega
 dsimp only
 repeat' (first|refine jx11 ?_|refine jy0 ?_ ?_|exact spF|refine spQ fun hq hq'=>?_|refine spN fun hn=>?_|fail)
 ·exfalso;omega
 ·apply ex2 (i+1)
  apply Exists.intro
  refine ⟨?_,⟨?_,?_⟩,.refl,?_⟩
  rotate_left 3
  (focus exact frA)
  ·dsimp only;omega
  ·dsimp only;omega
  ·dsimp only
   rw [flat_succ ls (by omega),List.length_append,hn,Int.toNat_natCast]
   omega
 ·have hil:i=ls.length:=by omega
  refine aws_loopS (6::[6,8,27,28,29,30,31,32,33,34]) [24] (fun (x:Nat × List Nat)=>[(27,.p (.i x.1)),(6,.o (.osl 24 x.1 1 0 x.2.length))]) (fun x=>[(24,(x.1+1,some (.buf 5 1 (x.2.map fun n:Nat=>[PVal.k .u8 (n:Int)]))))])
   (fun x=>x.1≤ls.length∧x.2=flat ls x.1) (fun x=>ls.length - x.1) (0,[]) ⟨Nat.zero_le _,rfl⟩ (by exact knA) (by exact knA) ?_
  rintro ⟨k,fs⟩ β' γ' ⟨hk,hfk⟩
  simp only at hk hfk
  have hfl':=flat_le ls k
  have hfs':k < ls.length→fs.length+(ls.getD (k:Int).toNat default).1.length≤1000000000:=fun hlt=>by
   have h1:=flat_le ls (k+1)
   rw [flat_succ ls hlt,List.length_append] at h1
   rw [Int.toNat_natCast,hfk]
   omega
  dsimp only
  repeat' (first|refine jx11 ?_|refine jy0 ?_ ?_|exact spF|refine spQ fun hq hq'=>?_|refine spN fun hn=>?_|fail)
  ·apply ex2 (k+1)
   apply Exists.intro
   refine ⟨?_,⟨?_,?_⟩,.refl,?_⟩
   rotate_left 3
   (focus exact frA)
   ·dsimp only;omega
   ·dsimp only;omega
   ·dsimp only
    rw [flat_succ ls (by omega),hfk,Int.toNat_natCast]
  ·have hkl:k=ls.length:=by omega
   have hfa:fs=ls.flatMap (·.1):=by rw [hfk,hkl,flat_all]
   subst hfa hkl
   exact RetO.mk (ot1 rfl rfl (.one (.kosl rfl)) rfl) ⟨.buf,trivial⟩
instance {c k:Nat} {ls:List (List Nat × Bool)} {ex:Bool}:OC Tryz.prog 174 [pieces ls ex] [] [(c,k)] ((ls.flatMap (·.1)).length≤1000000000∧ls.length≤1000000000)
  (.o (.osl c (k+ls.length) 1 0 (ls.flatMap (·.1)).length)) [(c,(k+(ls.length+1),some (.buf 5 1 ((ls.flatMap (·.1)).map fun n:Nat=>[PVal.k .u8 (n:Int)]))))]:=⟨fun h=>(concat_c ls ex h).fresh1 c k⟩
abbrev br (n:Nat):List PVal:=[PVal.k .u8 (n:Int)]
theorem padded_c (ls:List (List Nat × Bool)) (ex:Bool) (h:(ls.flatMap (·.1)).length≤500000000∧ls.length≤1000000000) :
  PCall Tryz.prog 151 [pieces ls ex] (bytesN (pad (ls.flatMap (·.1))) false):=by
 refine pcall_of Tryz.func151 rfl (fun w0 F S0 M0=>?_)
 obtain ⟨hf,hl⟩:=h
 have hf':(ls.flatMap (·.1)).length≤1000000000:=by omega
 repeat' (first|refine jx9 ?_|refine jy0 ?_ ?_|exact spF|refine spQ fun hq hq'=>?_|refine spN fun hn=>?_|fail)
 generalize hL:(ls.flatMap (·.1))=L at hf hf' ⊢
 refine aws_loopS (3::[3,15,16,17,18,19,20,21]) [7] (fun (x:Nat × List Nat)=>[(3,.o (.osl 7 (0+(ls.length+1)+x.1) 1 0 x.2.length))]) (fun x=>[(7,(0+(ls.length+1)+x.1+1,some (.buf 5 1 (x.2.map br))))])
  (fun x=>x.1≤zeros L.length∧x.2=L++[128]++List.replicate x.1 0) (fun x=>zeros L.length - x.1) (0,L++[128]) ⟨Nat.zero_le _,by simp⟩ (by exact knA) (by exact knA) ?_
 rintro ⟨j,bs⟩ β γ ⟨hj,hb⟩
 simp only at hj hb
 have hz:zeros L.length≤63:=by unfold zeros;omega
 have hbl:bs.length=L.length+1+j:=by rw [hb];simp;omega
 have hzj:((bs.length:Int) % 64=56∧j=zeros L.length)∨(¬ (bs.length:Int) % 64=56∧j < zeros L.length):=by
  rw [hbl];unfold zeros at hj ⊢;omega
 dsimp only
 repeat' (first|refine jx12 ?_|refine jy0 ?_ ?_|exact spF|refine spQ fun hq hq'=>?_|refine spN fun hn=>?_|fail)
 ·apply ex2 (j+1)
  apply Exists.intro
  refine ⟨?_,⟨?_,?_⟩,.refl,?_⟩
  rotate_left 3
  (focus exact frA)
  ·dsimp only;omega
  ·dsimp only;omega
  ·dsimp only
   rw [hb,List.replicate_succ'];simp
 ·have hjz:j=zeros L.length:=by omega
  refine aws_loopS (3::[3,5,22,23,24,25,26,27,28,29,30,31,32,33]) [7] (fun (x:Nat × Int × List Nat)=>[(5,.p (.i x.2.1)),(3,.o (.osl 7 (0+(ls.length+1)+j+x.1) 1 0 x.2.2.length))]) (fun x=>[(7,(0+(ls.length+1)+j+x.1+1,some (.buf 5 1 (x.2.2.map br))))])
   (fun x=>x.1≤8∧x.2.1=7 - (x.1:Int)∧x.2.2=bs++(lenBytes L.length).take x.1) (fun x=>8 - x.1) (0,7,bs) ⟨Nat.zero_le _,rfl,by simp⟩ (by exact knA) (by exact knA) ?_
  rintro ⟨k,t,cs⟩ β' γ' ⟨hk,ht,hc⟩
  simp only at hk ht hc
  have hll:(lenBytes L.length).length=8:=by simp [lenBytes]
  have hcl:cs.length=bs.length+k:=by rw [hc,List.length_append,List.length_take,hll];omega
  dsimp only
  repeat' (first|refine jx9 ?_|refine jy0 ?_ ?_|exact spF|refine spQ fun hq hq'=>?_|refine spN fun hn=>?_|fail)
  ·apply ex3 (k+1) (t - 1)
   apply Exists.intro
   refine ⟨?_,⟨?_,?_,?_⟩,.refl,?_⟩
   rotate_left 4
   (focus exact frA)
   ·dsimp only;omega
   ·dsimp only;omega
   ·dsimp only;omega
   ·have e:(8 * t).toNat=8 * (7 - k):=by omega
    have em:L.length % md .u64=L.length:=Nat.mod_eq_of_lt (by show L.length < 18446744073709551616;omega)
    dsimp only
    rw [hc,e,em,List.append_assoc,List.take_succ_eq_append_getElem (by rw [hll];omega)]
    simp only [lenBytes,List.getElem_map,List.getElem_range]
    rfl
  ·have hk8:k=8:=by omega
   refine rt1 rfl rfl (.one (finC_map rfl rfl rfl rfl)) (rs ?_)
   rw [hc,hb,hjz,hk8,List.take_of_length_le (by rw [hll];omega)]
   rfl
instance {ls:List (List Nat × Bool)} {ex:Bool}:PC Tryz.prog 151 [pieces ls ex] ((ls.flatMap (·.1)).length≤500000000∧ls.length≤1000000000) (bytesN (pad (ls.flatMap (·.1))) false):=⟨padded_c ls ex⟩
abbrev bytesP (l:List Nat) (ex:Bool):PVal:=.sl 1 (l.map br) ex
theorem chunk_c (b:List Nat) (ex:Bool) (n:Int) (h:1≤n):PCall Tryz.prog 150 [bytesN b ex,.p (.i n)] (.p (.fnv 173 [.bx [bytesP b ex] 0,.bx [.i n] 0])):=by
 refine pcall_of Tryz.func150 rfl (fun w0 F S0 M0=>?_)
 repeat' (first|refine jx11 ?_|refine jy0 ?_ ?_|exact spF|refine spQ fun hq hq'=>?_|refine spN fun hn=>?_|fail)
 ·exfalso;omega
 ·exact rt1 rfl rfl finS_p rfl
instance {b:List Nat} {ex:Bool} {n:Int}:PC Tryz.prog 150 [bytesN b ex,.p (.i n)] (1≤n) (.p (.fnv 173 [.bx [bytesP b ex] 0,.bx [.i n] 0])):=⟨chunk_c b ex n⟩
def chunkAt (b:List Nat) (n i:Nat):List Nat:=(b.drop (n * i)).take n
set_option maxHeartbeats 1000000 in
theorem chunks_c (b:List Nat) (ex:Bool) (m:Nat) (h:b.length=64 * m) (hb:b.length≤1000000000):ICall Tryz.prog 173 [.bx [bytesP b ex] 0,.bx [.i 64] 0] ((List.range m).map fun i=>bytesN (chunkAt b 64 i) true):=by
 refine icall_of Tryz.func173 rfl (fun w0 F S0 M0 I yv hone hY=>?_)
 simp only [List.length_map,List.length_range]
 repeat' (first|refine jx11 ?_|refine jy0 ?_ ?_|exact spF|refine spQ fun hq hq'=>?_|refine spN fun hn=>?_|fail)
 refine aws_loopS [4,5,6,7,8,9,10,11,12,13,14,15,16,17,18,19,20,21,22,23,24,25,26,27,28,29,30] [1000] (fun (x:Nat × Int)=>[(4,.p (.i x.2))]) (fun x=>[(1000,(1,some (.abs (I x.1))))])
  (fun x=>x.1≤m∧x.2=64 * (x.1:Int)) (fun x=>m - x.1) (0,0) ⟨Nat.zero_le _,rfl⟩ (by exact knA) (by exact knA) ?_
 rintro ⟨i,t⟩ β γ ⟨hi,ht⟩
 simp only at hi ht
 dsimp only
 repeat' (first|refine jx11 ?_|refine jy0 ?_ ?_|exact spF|refine spQ fun hq hq'=>?_|refine spN fun hn=>?_|fail)
 ·have him:i < m:=by omega
  have hdl:(b.drop t.toNat).length=64 * (m - i):=by rw [List.length_drop,h];omega
  refine aws_draws [] mixed (by kernel_rfl) ?_
  repeat' (first|refine jx13 ?_|refine jy1 ?_ ?_|exact spF|refine spQ fun hq hq'=>?_|fail)
  repeat' (first|refine jx11 ?_|refine jy0 ?_ ?_|exact spF|refine spQ fun hq hq'=>?_|refine spN fun hn=>?_|fail)
  refine rn_any (gd_n rfl rfl) rfl (lop_yield (av:=bytesN (chunkAt b 64 i) true) (m0:=(1,some (.abs (I i)))) (m1:=(1,some (.abs (I (i+1))))) rfl rfl (rs ?_) rfl (hY i _ (by simp [him])) rfl) ?_
  ·show _=(b.drop (64 * i)).take 64
   rw [show t.toNat=64 * i by omega] at hdl ⊢
   congr 1
   simp only [hdl] at *
   omega
  repeat' (first|refine jx11 ?_|refine jy0 ?_ ?_|exact spF|refine spQ fun hq hq'=>?_|refine spN fun hn=>?_|fail)
  apply ex2 (i+1)
  apply Exists.intro
  refine ⟨?_,⟨?_,?_⟩,.refl,?_⟩
  rotate_left 3
  (focus exact frA)
  ·dsimp only;omega
  ·dsimp only;omega
  ·dsimp only;omega
 ·have him:i=m:=by omega
  subst him
  show RetO _ _ _ _ _ .ret _
  exact RetO.mk (res0 rfl rfl) ⟨.abs,trivial⟩
theorem pad_len (b:List Nat):(pad b).length=b.length+1+zeros b.length+8:=by simp [pad,lenBytes];omega
theorem pad_64 (b:List Nat):(pad b).length=64 * ((pad b).length / 64):=by rw [pad_len];unfold zeros;omega
theorem blocks_succ (P:List Nat) (j:Nat):blocks P (j+1)=block (blocks P j) (chunkAt P 64 j):=rfl
theorem blocks_zero (P:List Nat):firstV=blocks P 0:=rfl
theorem sum_def (b:List Nat):sum b=digest (blocks (pad b) ((pad b).length / 64)):=rfl
theorem Agr.put' {σ τ:St} {W M:List Nat} {o:Nat} {m:Nat × Option MO} (h:Agr σ W (o::M) τ):Agr (σ.put o m) W M (τ.put o m):=⟨h.env,fun t ht=>by
 by_cases e:t=o
 ·subst e;simp [St.put]
 ·have hb:Nat.beq t o=false:=Bool.eq_false_iff.2 (fun k=>e (Nat.eq_of_beq_eq_true k))
  have:=h.mem t (by simp only [memb,hb,ht,Bool.or_self])
  simp [St.put,e,this]⟩
attribute [local irreducible] pad blocks block sum
theorem sum_c (ls:List (List Nat × Bool)) (ex:Bool) (h:(ls.flatMap (·.1)).length≤500000000∧ls.length≤1000000000) :
  PCall Tryz.prog 110 [pieces ls ex] (.a ((sum (ls.flatMap (·.1))).map bc)):=by
 refine pcall_of Tryz.func110 rfl (fun w0 F S0 M0=>?_)
 have hp:(pad (ls.flatMap (·.1))).length≤1000000000:=by rw [pad_len];unfold zeros;omega
 have hp64:=pad_64 (ls.flatMap (·.1))
 have hsum:sum (ls.flatMap (·.1))=digest (blocks (pad (ls.flatMap (·.1))) ((pad (ls.flatMap (·.1))).length / 64)):=sum_def _
 repeat' (first|refine jx11 ?_|refine jy0 ?_ ?_|exact spF|refine spQ fun hq hq'=>?_|refine spN fun hn=>?_|fail)
 generalize hP:pad (ls.flatMap (·.1))=P at hp hp64 hsum ⊢
 refine aws_block ?_
 refine aws_range (ι:=V8) [9,4,10,11,12] [3] (fun v=>[(3,(1,some (.box 224 (v8 v))))]) (fun j v=>v=blocks P j) firstV rfl inferInstance (chunks_c P false (P.length / 64) hp64 hp) rfl ?_ rfl rfl (fun i=>rfl) rfl (blocks_zero P) (by exact knA) ?_ ?_
 ·intro x hx
  simp only [List.mem_map] at hx
  obtain ⟨i,_,rfl⟩:=hx
  exact inferInstance
 ·intro j x hjx v γ w0 F S0 M0 l R R' hv
  rw [List.getElem?_map] at hjx
  have hj:j < P.length / 64:=by
   by_cases hlt:j < P.length / 64
   ·exact hlt
   ·rw [List.getElem?_eq_none (by simp;omega)] at hjx;cases hjx
  rw [List.getElem?_range hj] at hjx
  obtain rfl:=Option.some.inj hjx
  have hcl:(chunkAt P 64 j).length=64:=by simp only [chunkAt,List.length_take,List.length_drop];omega
  have hvo:v.ok:=by rw [hv];exact blocks_ok P j
  obtain ⟨B,hB⟩:∃ B,B=block v (chunkAt P 64 j):=⟨_,rfl⟩
  have hbc:PCall Tryz.prog 152 [.a (v8 v),bytesN (chunkAt P 64 j) true] (.a (v8 B)):=by rw [hB];exact block_c v _ true hcl hvo
  haveI:PC Tryz.prog 152 [.a (v8 v),bytesN (chunkAt P 64 j) true] True (.a (v8 B)):=⟨fun _=>hbc⟩
  repeat' (first|refine jx11 ?_|refine jy0 ?_ ?_|exact spF|refine spQ fun hq hq'=>?_|refine spN fun hn=>?_|fail)
  refine ⟨rfl,rfl,?_⟩
  repeat' (first|refine jx11 ?_|refine jy0 ?_ ?_|exact spF|refine spQ fun hq hq'=>?_|refine spN fun hn=>?_|fail)
  refine ⟨rfl,B,_,?_,.refl,Fr'.mk ?_ (by exact knA) (by exact knA)⟩
  rotate_left 1
  ·repeat' (first|exact Agr.refl|refine Agr.appg rfl rfl ?_|refine Agr.appgn rfl ?_|refine Agr.set rfl ?_|refine Agr.put rfl ?_|refine Agr.put' ?_|refine Agr.fr ?_ (memb_sub rfl) (memb_sub rfl) rfl rfl)
  ·show B=blocks P (j+1)
   rw [blocks_succ,← hv,hB]
 ·intro v γ hv
  simp only [List.length_map,List.length_range] at hv
  repeat' (first|refine jx11 ?_|refine jy0 ?_ ?_|exact spF|refine spQ fun hq hq'=>?_|refine spN fun hn=>?_|fail)
  refine rc1 rfl rfl rfl rfl rfl (by simp [digest]) finL_p ?_
  rw [hsum,← hv]
end Go.Proofs.YtkgploeegbmofaaGreat.Sh
namespace Go.Proofs.YtkgploeegbmofaaGreat.Sh
open Go Go.RowKit Go.Aw Go.Aw.Sha
set_option linter.unusedVariables false
set_option linter.unusedSimpArgs false
set_option maxRecDepth 8000
attribute [local irreducible] sum
theorem sum1_c (l:List Nat) (e1 e:Bool) (h:l.length≤500000000):PCall Tryz.prog 110 [.p (.sl 1 [[bytesP l e1]] e)] (.a ((sum l).map bc)):=by
 have:=sum_c [(l,e1)] e ⟨by simpa using h,by simp⟩
 rwa [show ([(l,e1)]:List (List Nat × Bool)).flatMap (·.1)=l by simp] at this
theorem sum2_c (a b:List Nat) (e1 e2 e:Bool) (h:a.length+b.length≤500000000):PCall Tryz.prog 110 [.p (.sl 1 [[bytesP a e1],[bytesP b e2]] e)] (.a ((sum (a++b)).map bc)):=by
 have:=sum_c [(a,e1),(b,e2)] e ⟨by simpa using h,by simp⟩
 rwa [show ([(a,e1),(b,e2)]:List (List Nat × Bool)).flatMap (·.1)=a++b by simp] at this
instance {l:List Nat} {e1 e:Bool}:PC Tryz.prog 110 [.p (.sl 1 [[bytesP l e1]] e)] (l.length≤500000000) (.a ((sum l).map bc)):=⟨sum1_c l e1 e⟩
instance {b:List Nat} {e2 e:Bool}:PC Tryz.prog 110 [.p (.sl 1 [[.sl 1 [[.v (.int .u8 0)]] true],[bytesP b e2]] e)] (b.length≤400000000) (.a ((sum (0::b)).map bc)):=⟨fun h=>sum2_c [0] b true e2 e (by simp only [List.length_cons,List.length_nil];omega)⟩
end Go.Proofs.YtkgploeegbmofaaGreat.Sh
namespace Go.Proofs.YtkgploeegbmofaaGreat.Rg
open Go Go.RowKit Go.Aw Go.Aw.Sha Go.Aw.Cart Go.Aw.Ord Go.Sort Go.Proofs.YtkgploeegbmofaaGreat.Ca Go.Proofs.YtkgploeegbmofaaGreat.Sh
set_option linter.unusedVariables false
set_option linter.unusedSimpArgs false
set_option maxRecDepth 8000
set_option maxHeartbeats 4000000
attribute [local irreducible] sum
def pv (S:List Nat):Nat→Nat
 | 0=>0
 | j+1=>pv S j * 256+S.getD j default
def pointF (b:List Nat):Nat:=pv (sum b) 8
theorem sum_okB (b:List Nat):okB (sum b):=by
 unfold sum digest
 intro x hx
 obtain ⟨i,_,rfl⟩:=List.mem_map.1 hx
 exact Nat.mod_lt _ (by decide)
theorem getD_ok {S:List Nat} (h:okB S) (j:Nat):S.getD j default < 256:=by
 rw [List.getD_eq_getElem?_getD]
 cases hj:S[j]? with
 | none=>exact (by decide:0 < 256)
 | some x=>exact h x (List.mem_of_getElem? hj)
theorem pv_lt {S:List Nat} (h:okB S):∀ j,pv S j < 256 ^ j
 | 0=>Nat.one_pos
 | j+1=>by
  have:=pv_lt h j
  have:=getD_ok h j
  rw [pv,Nat.pow_succ];omega
theorem pv_fit {S:List Nat} (h:okB S) {j:Nat} (hj:j≤8):pv S j < 18446744073709551616:=
 Nat.lt_of_lt_of_le (pv_lt h j) (show 256 ^ j≤256 ^ 8 from Nat.pow_le_pow_right (by decide) hj)
theorem byte_in {a c M:Nat} (ha:a * 256+c < M) (hc:c < 256):((a * 256) % M % M||| c % M % M)=a * 256+c:=by
 have h1:c < M:=by omega
 have h2:a * 256 < M:=Nat.lt_of_le_of_lt (Nat.le_add_right _ c) ha
 rw [Nat.mod_eq_of_lt h1,Nat.mod_eq_of_lt h1,Nat.mod_eq_of_lt h2,Nat.mod_eq_of_lt h2]
 have:=Nat.shiftLeft_add_eq_or_of_lt (i:=8) (show c < 2 ^ 8 from hc) a
 rw [Nat.shiftLeft_eq] at this
 exact this.symm
theorem lop_sl_arh {C:Ctx} {o:Oper} {σ:St} {T e:TypeId} {x y:Operand} {n sz by_:Nat} {ke:TK} {sze be:Nat} {ob g off:Nat} {k:IntKind} {m:Int} (ho:o.op=.slice T x none (some y) none) (hT:TI C.P T (.array n e) sz by_) (he:TI C.P e ke sze be) (hx:σ.look x=.o (.ptr ob g off)) (hy:σ.look y=.p (.v (.int k m))) (h0:0≤m) (hm:m≤n) (hd:dOk C o.dst=true) :
  LOp C o σ ⟨.o (.asl ob g off m.toNat n),[]⟩ (fun _=>false):=
 lop_val hd fun τ a w G hl hm' h=>by
  obtain ⟨b,c,h1,h2⟩:=look_of h ((hl x (by simp [ho,Op.operands])).trans hx)
  have e2:=val_of h ((hl y (by simp [ho,Op.operands])).trans hy)
  obtain ⟨d,hdd,hk⟩:=hT.undd
  have:d=.array n e:=by cases d<;>simp [TK.of] at hk;rw [hk.1,hk.2]
  subst this
  refine ⟨.slice (some ⟨b,off,none⟩) m.toNat n,?_,b,c,h1,rfl⟩
  simp [execOp,ho,h2,e2,Instr.sliceAt,Instr.sureAddr,run_underlying hdd,Instr.sliceBounds,run_sb (y:=n) h0 hm,he.run_sizeOf,Addr.add]
namespace P6
theorem lopC {C:Ctx} {o:Oper} {σ:St} {e:Eff} {ro:Nat→Bool} (h:LOp C o σ e ro:=by
  first
   | exact lop_wadd' rfl rfl rfl (by with_reducible (first|rfl|exact lit_nat _|exact ofn_nat _)) (by with_reducible (first|rfl|exact lit_nat _|exact ofn_nat _)) rfl rfl
      | exact lop_wmul' rfl rfl rfl (by with_reducible (first|rfl|exact lit_nat _|exact ofn_nat _)) (by with_reducible (first|rfl|exact lit_nat _|exact ofn_nat _)) rfl rfl
      | exact lop_wsub' rfl rfl rfl (by with_reducible (first|rfl|exact lit_nat _|exact ofn_nat _)) (by with_reducible (first|rfl|exact lit_nat _|exact ofn_nat _)) rfl rfl
      | exact lop_wquo' rfl rfl rfl (by with_reducible (first|rfl|exact lit_nat _|exact ofn_nat _)) (by with_reducible (first|rfl|exact lit_nat _|exact ofn_nat _)) (by decide) rfl rfl
      | exact lop_wrem' rfl rfl rfl (by with_reducible (first|rfl|exact lit_nat _|exact ofn_nat _)) (by with_reducible (first|rfl|exact lit_nat _|exact ofn_nat _)) (by decide) rfl
      | exact lop_wand' rfl rfl rfl (by with_reducible (first|rfl|exact lit_nat _|exact ofn_nat _)) (by with_reducible (first|rfl|exact lit_nat _|exact ofn_nat _)) rfl rfl
      | exact lop_wor' rfl rfl rfl (by with_reducible (first|rfl|exact lit_nat _|exact ofn_nat _)) (by with_reducible (first|rfl|exact lit_nat _|exact ofn_nat _)) rfl rfl
      | exact lop_wxor' rfl rfl rfl (by with_reducible (first|rfl|exact lit_nat _|exact ofn_nat _)) (by with_reducible (first|rfl|exact lit_nat _|exact ofn_nat _)) rfl rfl
      | exact lop_wnot' rfl rfl (by with_reducible (first|rfl|exact lit_nat _|exact ofn_nat _)) rfl rfl
      | exact lop_wshr' rfl rfl (by with_reducible (first|rfl|exact lit_nat _|exact ofn_nat _)) rfl (by first|decide|omega) (by first|decide|(simp only [IntKind.bits];omega)) rfl
      | exact lop_wshl' rfl rfl (by with_reducible (first|rfl|exact lit_nat _|exact ofn_nat _)) rfl (by first|decide|omega) (by first|decide|(simp only [IntKind.bits];omega)) rfl rfl
      | (apply lop_wconv';(focus rfl);(focus exact inferInstance);(focus exact inferInstance);(focus rfl);(focus exact (by with_reducible (first|rfl|exact lit_nat _|exact ofn_nat _)));(focus rfl);(focus rfl))
   | (apply lop_sl_arh;(focus rfl);(focus exact inferInstance);(focus exact inferInstance);(focus rfl);(focus rfl);(focus decide);(focus decide);(focus rfl))
   | exact lop_len_asl rfl rfl rfl
   | exact lopQ
   | fail):LOp C o σ e ro:=h
section steps
variable {C:Ctx} {ops:Array Oper} {o:Oper} {rest:List Oper} {K:St→Prop} {σ:St} {e:Eff} {ro:Nat→Bool} {W:List (Nat × Nat)} {i:Nat}
theorem rnC {d:Nat} (hg:Guard ops σ o true:=by first|exact gd_n rfl rfl|exact gd_t rfl rfl rfl rfl|exact gd_t rfl rfl rfl (by assumption)) (hd:o.dst=some d:=by rfl) (h:LOp C o σ e ro:=by exact lopC) (hk:RunN C ops rest K (e.app (some d) σ)):RunN C ops (o::rest) K σ:=rn_any hg hd h hk
end steps
end P6
open P6
theorem shaPoint_w (b:List Nat) (ex:Bool) (h:b.length≤500000000):PCall Tryz.prog 178 [bytesN b ex] (.p (.k .u64 (pointF b:Int))):=by
 refine pcall_of Tryz.func178 rfl (fun w0 F S0 M0=>?_)
 obtain ⟨S,hS⟩:∃ S,S=sum b:=⟨_,rfl⟩
 have hSl:S.length=32:=by rw [hS];exact sum_len b
 have hSo:okB S:=by rw [hS];exact sum_okB b
 haveI:PC Tryz.prog 110 [.p (.sl 1 [[bytesP b ex]] true)] True (.a (S.map bc)):=⟨fun _=>by rw [hS];exact sum1_c b ex true h⟩
 rw [show pointF b=pv S 8 by rw [hS];rfl]
 clear hS
 repeat' (first|refine jx5 ?_|refine jy0 ?_ ?_|exact spF|refine spQ fun hq hq'=>?_|refine spN fun hn=>?_|fail)
 refine aws_loopS [3,6,12,13,14,15,16,17,18,19,20,21] [] (fun (i:Nat)=>[(12,.p (.i i)),(3,.p (.k .u64 (pv S i:Int)))]) (fun _=>[]) (fun i=>i≤8) (fun i=>8 - i) 0 (Nat.zero_le _) (by exact knA) (by exact knA) ?_
 rintro i β γ hi
 by_cases hil:i < 8
 ·have d1:decide ((i:Int) < 8)=true:=decide_eq_true (by omega)
  as_aux_lemma=>
   repeat' (first|refine jx5 ?_|refine jy0 ?_ ?_|exact spF|refine spQ fun hq hq'=>?_|refine spN fun hn=>?_|fail)
   refine ⟨i+1,_,by omega,(by show i+1≤8;omega),.refl,?_⟩
   have e:pv S (i+1)=(pv S i * 2 ^ (8:Int).toNat) % md .u64 % md .u64||| S.getD (i:Int).toNat default % md .u64 % md .u64:=by
    rw [pv,Int.toNat_natCast]
    exact (byte_in (M:=md .u64) (by have:=pv_fit hSo (show i+1≤8 by omega);rwa [pv] at this) (getD_ok hSo i)).symm
   try dsimp only
   rw [e]
   exact frA
 ·have d1:decide ((i:Int) < 8)=false:=decide_eq_false (by omega)
  obtain rfl:i=8:=by omega
  as_aux_lemma=>
   repeat' (first|refine jx5 ?_|refine jy0 ?_ ?_|exact spF|refine spQ fun hq hq'=>?_|refine spN fun hn=>?_|fail)
   exact rt1 rfl rfl finS_p rfl
end Go.Proofs.YtkgploeegbmofaaGreat.Rg
namespace Go.Aw
open Go Go.RowKit
set_option linter.unusedVariables false
set_option linter.unusedSimpArgs false
def cellH (X:Wd) (tyB es:Nat) (r:Option (List (List PVal))) (v:Value) (f:List Nat):Prop:=
  match r with
  | some rows=>∃ m c,v=.slice (m.map fun b=>(⟨b,0,none⟩:Addr)) rows.length c∧(MO.buf tyB es rows).holds Mu.none X (m,c) f
  | none=>v.oneCell'=true∧f=[]
theorem cellH.mono {x y:Wd} {tyB es:Nat} {r:Option (List (List PVal))} {v:Value} {f:List Nat} (hle:x.le y) (hf:∀ k,k∈f→y.w.heap[k]?=x.w.heap[k]?) (h:cellH x tyB es r v f):cellH y tyB es r v f:=by
  cases r with
  | none=>exact h
  | some rows=>obtain ⟨m,c,h1,h2⟩:=h;exact ⟨m,c,h1,h2.mono (Mu.le.refl _) hle hf⟩
theorem cellH.one {X:Wd} {tyB es:Nat} {r:Option (List (List PVal))} {v:Value} {f:List Nat} (h:cellH X tyB es r v f):v.oneCell'=true:=by
  cases r with
  | none=>exact h.1
  | some rows=>obtain ⟨m,c,rfl,_⟩:=h;rfl
theorem flat_mem {fs:List (List Nat)} {j:Nat} {f:List Nat} (h:fs[j]?=some f) {k:Nat} (hk:k∈f):k∈fs.flatten:=List.mem_flatten.2 ⟨f,List.mem_of_getElem? h,hk⟩
def arrA (ty tyB es:Nat) (Ls:List (Option (List (List PVal)))):AObj where
  holds X b fp:=∃ (vs:List Value) (fs:List (List Nat)),X.w.heap[b]?=some (.cells vs.toArray ty (0,0))∧vs.length=Ls.length∧fs.length=Ls.length∧fp=b::fs.flatten∧fp.Nodup∧
    ∀ (j:Nat) r v f,Ls[j]?=some r→vs[j]?=some v→fs[j]?=some f→cellH X tyB es r v f
  mono:=by
    rintro x y b fp hle hf ⟨vs,fs,h1,h2,h3,rfl,h5,h6⟩
    exact ⟨vs,fs,(hf b (by simp)).trans h1,h2,h3,rfl,h5,fun j r v f a1 a2 a3=>(h6 j r v f a1 a2 a3).mono hle fun k hk=>hf k (List.mem_cons_of_mem _ (flat_mem a3 hk))⟩
theorem flat_split {fs:List (List Nat)} {j:Nat} {f:List Nat} (h:fs[j]?=some f):fs.flatten=(fs.take j).flatten++(f++(fs.drop (j+1)).flatten):=by
  have hj:j < fs.length:=(List.getElem?_eq_some_iff.1 h).1
  have e:fs[j]=f:=(List.getElem?_eq_some_iff.1 h).2
  conv=>lhs;rw [← List.take_append_drop j fs,List.drop_eq_getElem_cons hj,e]
  rw [List.flatten_append,List.flatten_cons]
theorem flat_set {fs:List (List Nat)} {j:Nat} {f f':List Nat} (h:fs[j]?=some f):(fs.set j f').flatten=(fs.take j).flatten++(f'++(fs.drop (j+1)).flatten):=by
  have hj:j < fs.length:=(List.getElem?_eq_some_iff.1 h).1
  rw [List.set_eq_take_append_cons_drop,if_pos hj,List.flatten_append,List.flatten_cons]
theorem RelG.split {C:Ctx} {σ:St} {a:Act} {w:World} {G:Gh} (h:RelG C σ a w G) {o d n nd:Nat} {mo0 mod0:Option MO} {moo mod:MO} {m:Option Nat × Nat} {fo fd:List Nat} (hne:d≠o) (ho:σ.mem o=(n,mo0)) (hd:σ.mem d=(nd,mod0))
    (hfo:∀ b,b∈fo→b∈G.φ o) (hfd:∀ b,b∈fd→b∈G.φ o) (hdis:∀ b,b∈fo→b∈fd→False)
    (hO:∃ g mm,n=g+1∧(G.μ o)[g]?=some mm∧moo.holds (fun x=>if x=d then G.μ d++[m] else G.μ x) ⟨w,G.S⟩ mm fo) (hD:mod.holds (fun x=>if x=d then G.μ d++[m] else G.μ x) ⟨w,G.S⟩ m fd) :
    RelG C ((σ.put d (nd+1,some mod)).put o (n,some moo)) a w ⟨fun x=>if x=d then G.μ d++[m] else G.μ x,G.S,fun x=>if x=d then fd else if x=o then fo else G.φ x⟩:=by
  have hlen:(G.μ d).length=nd:=by have:=h.gens d;rw [hd] at this;exact this
  have hmu:G.μ.le (fun x=>if x=d then G.μ d++[m] else G.μ x):=mu_le
  have hfp:∀ {x k},k∈(if x=d then fd else if x=o then fo else G.φ x)→k∈G.φ (if x=d then o else x)∧(x=d→k∈fd)∧(x=o→k∈fo):=fun {x k} hk=>by
    by_cases hx:x=d
    · rw [if_pos hx] at hk
      exact ⟨by rw [if_pos hx];exact hfd k hk,fun _=>hk,fun e=>absurd (hx.symm.trans e) hne⟩
    · rw [if_neg hx] at hk
      rw [if_neg hx]
      by_cases hxo:x=o
      · rw [if_pos hxo] at hk
        exact ⟨by rw [hxo];exact hfo k hk,fun e=>absurd e hx,fun _=>hk⟩
      · rw [if_neg hxo] at hk
        exact ⟨hk,fun e=>absurd e hx,fun e=>absurd e hxo⟩
  exact {
    size:=h.size
    defers:=fun e he=>by
      obtain ⟨b',rfl,h1,h2,h3,h4,h5⟩:=h.defers e he
      exact ⟨b',rfl,h1,h2,h3,h4,fun x hx=>h5 _ (hfp hx).1⟩
    dnod:=h.dnod
    mle:=h.mle.trans hmu
    env:=fun t=>(h.env t).mono hmu (Wd.le.refl _)
    gens:=fun x=>by
      by_cases hx:x=d
      · subst hx;simp [St.put,hne,hlen]
      · by_cases hxo:x=o
        · subst hxo;have:=h.gens x;rw [ho] at this;simpa [St.put,hx] using this
        · simpa [St.put,hx,hxo] using h.gens x
    mem:=fun x n' mo' hx=>by
      by_cases hxo:x=o
      · subst hxo
        simp only [St.put,if_true,Prod.mk.injEq] at hx
        obtain ⟨rfl,hx⟩:=hx
        obtain rfl:=Option.some.inj hx
        obtain ⟨g,mm,e1,e2,e3⟩:=hO
        exact ⟨g,mm,e1,by simpa [hne.symm] using e2,by simpa [hne.symm] using e3⟩
      · by_cases hxd:x=d
        · subst hxd
          simp only [St.put,hxo,if_false,if_true,Prod.mk.injEq] at hx
          obtain ⟨rfl,hx⟩:=hx
          obtain rfl:=Option.some.inj hx
          exact ⟨nd,m,rfl,by simp [← hlen],by simpa using hD⟩
        · simp only [St.put,hxd,hxo,if_false] at hx
          obtain ⟨g,m2,hn,hm2,hh⟩:=h.mem x n' mo' hx
          refine ⟨g,m2,hn,by simpa [hxd] using hm2,?_⟩
          simp only [hxo,hxd,if_false]
          exact hh.mono hmu (Wd.le.refl _) fun k hk=>rfl
    apart:=fun x y b' hxy hbx hby=>by
      have h1:=hfp hbx
      have h2:=hfp hby
      by_cases hx:x=d<;>by_cases hy:y=d
      · exact hxy (hx.trans hy.symm)
      · by_cases hyo:y=o
        · exact hdis b' (h2.2.2 hyo) (h1.2.1 hx)
        · have a1:=h1.1;have a2:=h2.1
          rw [if_pos hx] at a1;rw [if_neg hy] at a2
          exact h.apart o y b' (Ne.symm hyo) a1 a2
      · by_cases hxo:x=o
        · exact hdis b' (h1.2.2 hxo) (h2.2.1 hy)
        · have a1:=h1.1;have a2:=h2.1
          rw [if_neg hx] at a1;rw [if_pos hy] at a2
          exact h.apart x o b' hxo a1 a2
      · have a1:=h1.1;have a2:=h2.1
        rw [if_neg hx] at a1;rw [if_neg hy] at a2
        exact h.apart x y b' hxy a1 a2
    stab:=fun x b' hb=>h.stab _ b' (hfp hb).1
    own:=fun x b' hb=>h.own _ b' (hfp hb).1
    sbd:=h.sbd
    ssub:=h.ssub
    fr:=h.fr }
theorem RelG.join {C:Ctx} {σ:St} {a:Act} {w:World} {G:Gh} (h:RelG C σ a w G) {o d n nd:Nat} {mo0 mod0:Option MO} {moo:MO} (hne:d≠o) (ho:σ.mem o=(n,mo0)) (hd:σ.mem d=(nd,mod0))
    (hO:∃ g mm,n=g+1∧(G.μ o)[g]?=some mm∧moo.holds G.μ ⟨w,G.S⟩ mm (G.φ o++G.φ d)) :
    RelG C ((σ.put d (nd,none)).put o (n,some moo)) a w ⟨G.μ,G.S,fun x=>if x=o then G.φ o++G.φ d else if x=d then [] else G.φ x⟩:=by
  have hfp:∀ {x k},k∈(if x=o then G.φ o++G.φ d else if x=d then [] else G.φ x)→(x=o∧(k∈G.φ o∨k∈G.φ d))∨(x≠o∧x≠d∧k∈G.φ x):=fun {x k} hk=>by
    by_cases hx:x=o
    · rw [if_pos hx] at hk;exact .inl ⟨hx,List.mem_append.1 hk⟩
    · rw [if_neg hx] at hk
      by_cases hxo:x=d
      · rw [if_pos hxo] at hk;cases hk
      · rw [if_neg hxo] at hk;exact .inr ⟨hx,hxo,hk⟩
  exact {
    size:=h.size
    defers:=fun e he=>by
      obtain ⟨b',rfl,h1,h2,h3,h4,h5⟩:=h.defers e he
      refine ⟨b',rfl,h1,h2,h3,h4,fun x hx=>?_⟩
      rcases hfp hx with ⟨_,k|k⟩ | ⟨_,_,k⟩<;>exact h5 _ k
    dnod:=h.dnod
    mle:=h.mle
    env:=h.env
    gens:=fun x=>by
      by_cases hx:x=o
      · subst hx;have:=h.gens x;rw [ho] at this;simpa [St.put] using this
      · by_cases hxo:x=d
        · subst hxo;have:=h.gens x;rw [hd] at this;simpa [St.put,hx] using this
        · simpa [St.put,hx,hxo] using h.gens x
    mem:=fun x n' mo' hx=>by
      by_cases hxo:x=o
      · subst hxo
        simp only [St.put,if_true,Prod.mk.injEq] at hx
        obtain ⟨rfl,hx⟩:=hx
        obtain rfl:=Option.some.inj hx
        obtain ⟨g,mm,e1,e2,e3⟩:=hO
        exact ⟨g,mm,e1,e2,by simpa using e3⟩
      · by_cases hxd:x=d
        · subst hxd
          simp [St.put,hxo] at hx
        · simp only [St.put,hxd,hxo,if_false] at hx ⊢
          exact h.mem x n' mo' hx
    apart:=fun x y b' hxy hbx hby=>by
      rcases hfp hbx with ⟨rfl,k|k⟩ | ⟨k1,k2,k⟩<;>rcases hfp hby with ⟨rfl,q|q⟩ | ⟨q1,q2,q⟩
      · exact hxy rfl
      · exact hxy rfl
      · exact h.apart _ _ b' hxy k q
      · exact hxy rfl
      · exact hxy rfl
      · exact h.apart _ _ b' (Ne.symm q2) k q
      · exact h.apart _ _ b' hxy k q
      · exact h.apart _ _ b' k2 k q
      · exact h.apart _ _ b' hxy k q
    stab:=fun x b' hb=>by rcases hfp hb with ⟨_,k|k⟩ | ⟨_,_,k⟩<;>exact h.stab _ b' k
    own:=fun x b' hb=>by rcases hfp hb with ⟨_,k|k⟩ | ⟨_,_,k⟩<;>exact h.own _ b' k
    sbd:=h.sbd
    ssub:=h.ssub
    fr:=h.fr }
theorem RelG.freezeP {C:Ctx} {σ:St} {a:Act} {w:World} {G:Gh} (h:RelG C σ a w G) {o n:Nat} {mo:Option MO} {mo':MO} {fo:List Nat} (hm:σ.mem o=(n,mo)) (hfo:∀ b,b∈fo→b∈G.φ o)
    (hmo:∃ g m,n=g+1∧(G.μ o)[g]?=some m∧mo'.holds G.μ ⟨w,fun b=>G.S b∨(b∈G.φ o∧b ∉ fo)⟩ m fo) :
    RelG C (σ.put o (n,some mo')) a w ⟨G.μ,fun b=>G.S b∨(b∈G.φ o∧b ∉ fo),fun x=>if x=o then fo else G.φ x⟩:=by
  have hle:Wd.le ⟨w,G.S⟩ ⟨w,fun b=>G.S b∨(b∈G.φ o∧b ∉ fo)⟩:=fun b hb=>⟨.inl hb,rfl⟩
  have hfp:∀ {x k},k∈(if x=o then fo else G.φ x)→k∈G.φ x∧(x=o→k∈fo):=fun {x k} hk=>by
    by_cases hx:x=o
    · rw [if_pos hx] at hk;exact ⟨by rw [hx];exact hfo k hk,fun _=>hk⟩
    · rw [if_neg hx] at hk;exact ⟨hk,fun e=>absurd e hx⟩
  exact {
    size:=h.size
    defers:=fun d hd=>by
      obtain ⟨b,rfl,h1,h2,h3,h4,h5⟩:=h.defers d hd
      exact ⟨b,rfl,h1,h2,h3,fun hs=>hs.elim h4 fun q=>h5 o q.1,fun x hx=>h5 x (hfp hx).1⟩
    dnod:=h.dnod
    mle:=h.mle
    env:=fun t=>(h.env t).mono (Mu.le.refl _) hle
    gens:=fun x=>by
      by_cases hx:x=o
      · subst hx;have:=h.gens x;rw [hm] at this;simpa [St.put] using this
      · simpa [St.put,hx] using h.gens x
    mem:=fun x k mo1 hx=>by
      by_cases hxo:x=o
      · subst hxo
        simp only [St.put,if_true,Prod.mk.injEq] at hx
        obtain ⟨rfl,hx⟩:=hx
        obtain rfl:=Option.some.inj hx
        obtain ⟨g,m,e1,e2,e3⟩:=hmo
        exact ⟨g,m,e1,e2,by simpa using e3⟩
      · simp only [St.put,hxo,if_false] at hx
        obtain ⟨g,m,hn,hm',hh⟩:=h.mem x k mo1 hx
        refine ⟨g,m,hn,hm',?_⟩
        simp only [hxo,if_false]
        exact hh.mono (Mu.le.refl _) hle fun _ _=>rfl
    apart:=fun x y b hxy hbx hby=>h.apart x y b hxy (hfp hbx).1 (hfp hby).1
    stab:=fun x b hb hs=>by
      rcases hs with hs | ⟨hs,hn⟩
      · exact h.stab x b (hfp hb).1 hs
      · by_cases hx:x=o
        · exact hn ((hfp hb).2 hx)
        · exact h.apart x o b hx (hfp hb).1 hs
    own:=fun x b hb=>h.own x b (hfp hb).1
    sbd:=fun b hb=>by
      rcases hb with hb | ⟨hb,_⟩
      · exact h.sbd b hb
      · exact ⟨(h.own o b hb).2,.inr (h.own o b hb).1⟩
    ssub:=fun b hb=>.inl (h.ssub b hb)
    fr:=h.fr }
theorem flat_rep:∀ k:Nat,(List.replicate k ([]:List Nat)).flatten=[]
  | 0=>rfl
  | k+1=>by rw [List.replicate_succ,List.flatten_cons,flat_rep k];rfl
theorem says_arr0 {C:Ctx} {σ:St} {o n ty tyB es k:Nat} (hm:σ.mem o=(n,some (.box ty (List.replicate k (.p (.v (.slice none 0 0))))))) (hes:0 < es):Says C σ (σ.put o (n,some (.abs (arrA ty tyB es (List.replicate k (some [])))))):=by
  rintro a w ⟨G,h⟩
  obtain ⟨g,m,hg,hmm,b,arr,h1,h2,h3,h4⟩:=h.mem o _ _ hm
  have hlen:(G.μ o).length=n:=by have:=h.gens o;rw [hm] at this;exact this
  refine ⟨_,h.upd (o:=o) (n':=n) (mo':=some (.abs (arrA ty tyB es (List.replicate k (some []))))) (μo:=G.μ o) (fp':=G.φ o) (w':=w) (fun g x hx=>hx) hlen rfl .same rfl (Nat.le_refl _) (fun _ _ _=>rfl) (fun b hb=>⟨.inl hb,(h.own o b hb).2⟩) (fun mo1 hmo=>?_)⟩
  obtain rfl:=Option.some.inj hmo
  have hal:arr.length=k:=by have:=h4.1;simpa using this.symm
  refine ⟨g,m,hg,hmm,b,h1,arr,List.replicate k [],h3,by simp [hal],by simp,?_,?_,?_⟩
  · rw [h2,flat_rep]
  · rw [h2];simp
  · intro j r v f a1 a2 a3
    rw [List.getElem?_replicate] at a1 a3
    split at a1
    · rename_i hj
      rw [if_pos hj] at a3
      obtain rfl:=Option.some.inj a1
      obtain rfl:=Option.some.inj a3
      have:=h4.2 j (.p (.v (.slice none 0 0))) v (by rw [List.getElem?_replicate,if_pos hj]) a2
      obtain ⟨rfl,_⟩:=this
      exact ⟨none,0,rfl,hes,by simp [maxLen],Nat.le_refl _,.inl ⟨rfl,rfl,rfl⟩⟩
    · cases a1
theorem says_arr1 {C:Ctx} {σ:St} {o n ty tyB es:Nat} {L:List (List (List PVal))} (hm:σ.mem o=(n,some (.abs (arrA ty tyB es (L.map some))))):Says C σ (σ.put o (n,some (.box ty (L.map fun rows=>.p (.sl es rows false))))):=by
  rintro a w ⟨G,h⟩
  obtain ⟨g,m,hg,hmm,b,h1,vs,fs,h2,h3,h4,h5,h6,h7⟩:=h.mem o _ _ hm
  rw [h5,List.nodup_cons] at h6
  refine ⟨_,h.freezeP (o:=o) (fo:=[b]) hm (fun k hk=>by rw [h5];simp at hk;simp [hk]) ⟨g,m,hg,hmm,b,vs,h1,rfl,h2,?_⟩⟩
  rw [List.length_map] at h3 h4
  refine ⟨by rw [List.length_map,h3],fun j ac v hac hv=>?_⟩
  rw [List.getElem?_map] at hac
  cases hj:L[j]? with
  | none=>rw [hj] at hac;cases hac
  | some rows=>
    rw [hj] at hac
    obtain rfl:=Option.some.inj hac
    have hjl:j < L.length:=(List.getElem?_eq_some_iff.1 hj).1
    have hf:fs[j]?=some (fs[j]'(by omega)):=List.getElem?_eq_getElem _
    obtain ⟨m1,c,e1,e2,e3,e4,e5⟩:=h7 j (some rows) v _ (by rw [List.getElem?_map,hj];rfl) hv hf
    subst e1
    simp only at e3 e4 e5
    refine ⟨m1.map fun b=>(⟨b,0,none⟩:Addr),c,rfl,e4,e3,by simp,?_⟩
    rcases e5 with ⟨q1,q2,_⟩ | ⟨b',arr,q1,q2,q3,q4,q5⟩
    · subst q1
      exact ⟨List.eq_nil_of_length_eq_zero (by omega),q2⟩
    · subst q1
      refine .inr ⟨rfl,.inr ⟨?_,?_⟩,arr,tyB,(0,0),q3,fun i row hr=>⟨(q5 i row hr).1,fun j p hp=>?_⟩⟩
      · rw [h5]
        exact List.mem_cons_of_mem _ (flat_mem hf (by rw [q2];simp))
      · intro hbb
        simp at hbb
        exact h6.1 (by rw [← hbb];exact flat_mem hf (by rw [q2];simp))
      · obtain ⟨c,hc,hh⟩:=(q5 i row hr).2 j p hp
        exact ⟨c,hc,p.mono (x:=⟨w,G.S⟩) (fun b hb=>⟨.inl hb,rfl⟩) hh⟩
section ops
variable {C:Ctx} {o:Oper} {σ:St}
theorem lop_ld_take {T:TypeId} {x:Operand} {k:TK} {sz by_:Nat} {ob g off n d nd ty tyB es:Nat} {mo0:Option MO} {Ls:List (Option (List (List PVal)))} {rows:List (List PVal)} (ho:o.op=.load T x) (hT:TI C.P T k sz by_) (hdst:o.dst=some d) (hx:σ.look x=.o (.ptr ob g off)) (hm:σ.mem ob=(n,some (.abs (arrA ty tyB es Ls)))) (hn:n=g+1)
    (hk:k.agg=false) (hs:sz=1) (hj:Ls[off]?=some (some rows)) (hmd:σ.mem d=(nd,mo0)) (hne:d≠ob) (hd:dOk C o.dst=true) :
    LOp C o σ ⟨.o (.osl d nd es 0 rows.length),[(ob,(n,some (.abs (arrA ty tyB es (Ls.set off none))))),(d,(nd+1,some (.buf tyB es rows)))]⟩ (fun q=>q == ob||q == d):=by
  refine ⟨fun x m h=>by simp at h;rcases h with ⟨rfl,_⟩ | ⟨rfl,_⟩<;>simp,fun τ hl hm' a w ⟨G,h⟩ K Q hK=>?_⟩
  subst hn
  have hmo:τ.mem ob=(g+1,some (.abs (arrA ty tyB es Ls))):=by rw [hm' ob (by simp)];exact hm
  have hmdd:τ.mem d=(nd,mo0):=by rw [hm' d (by simp)];exact hmd
  obtain ⟨b,c',h1,h2⟩:=look_of h ((hl x (by simp [ho,Op.operands])).trans hx)
  obtain ⟨g',m',hg,hmm,b',h4,vs,fs,h5,h6,h7,h8,h9,h10⟩:=h.mem ob _ _ hmo
  obtain rfl:g=g':=by omega
  rw [h1] at hmm;obtain rfl:=Option.some.inj hmm
  simp only [Option.some.injEq] at h4;subst h4
  have hjl:off < Ls.length:=(List.getElem?_eq_some_iff.1 hj).1
  have hv:vs[off]?=some (vs[off]'(by omega)):=List.getElem?_eq_getElem _
  have hf:fs[off]?=some (fs[off]'(by omega)):=List.getElem?_eq_getElem _
  obtain ⟨m1,c1,e1,e2⟩:=h10 off _ _ _ hj hv hf
  have hr:=run_loadVar hT h5 (off:=off) (by omega) (fun _=>hs)
  simp only [hk,Bool.false_eq_true,if_false] at hr
  have e:vs.getD off undef=vs[off]'(by omega):=by simp [List.getD_eq_getElem?_getD,hv]
  rw [e,e1] at hr
  have hlen:(G.μ d).length=nd:=by have:=h.gens d;rw [hmdd] at this;exact this
  have hnd:=h9
  rw [h8,flat_split hf] at hnd
  have hnd2:=List.nodup_cons.1 hnd
  have hfr:=flat_set (f':=[]) hf
  have hsp:=h.split (o:=ob) (d:=d) (moo:=.abs (arrA ty tyB es (Ls.set off none))) (mod:=.buf tyB es rows) (m:=(m1,c1)) (fo:=b::(fs.set off []).flatten) (fd:=fs[off]'(by omega)) hne hmo hmdd
    (fun k hk=>by
      rw [h8,flat_split hf]
      rw [hfr] at hk
      rcases List.mem_cons.1 hk with rfl|hk
      · exact List.mem_cons_self
      · refine List.mem_cons_of_mem _ ?_
        rcases List.mem_append.1 hk with hk|hk
        · exact List.mem_append_left _ hk
        · exact List.mem_append_right _ (List.mem_append_right _ (by simpa using hk)))
    (fun k hk=>by rw [h8];exact List.mem_cons_of_mem _ (flat_mem hf hk))
    (fun k hk hk2=>by
      rw [hfr] at hk
      have hA:=List.nodup_append.1 hnd2.2
      have hB:=List.nodup_append.1 hA.2.1
      rcases List.mem_cons.1 hk with rfl|hk
      · exact hnd2.1 (List.mem_append_right _ (List.mem_append_left _ hk2))
      · rcases List.mem_append.1 hk with hk|hk
        · exact hA.2.2 k hk k (List.mem_append_left _ hk2) rfl
        · exact hB.2.2 k hk2 k (by simpa using hk) rfl)
    ⟨g,(some b,c'),rfl,h1,b,rfl,vs,fs.set off [],h5,by rw [List.length_set,h6],by rw [List.length_set,List.length_set,h7],rfl,by
      rw [hfr]
      have hA:=List.nodup_append.1 hnd2.2
      have hB:=List.nodup_append.1 hA.2.1
      refine List.nodup_cons.2 ⟨fun q=>hnd2.1 ?_,?_⟩
      · rcases List.mem_append.1 q with q|q
        · exact List.mem_append_left _ q
        · exact List.mem_append_right _ (List.mem_append_right _ (by simpa using q))
      · refine List.nodup_append.2 ⟨hA.1,by simpa using hB.2.1,fun x hx y hy=>hA.2.2 x hx y (List.mem_append_right _ (by simpa using hy))⟩,fun j r v f a1 a2 a3=>by
      by_cases hjo:j=off
      · subst hjo
        rw [List.getElem?_set_self hjl] at a1
        rw [List.getElem?_set_self (by omega)] at a3
        obtain rfl:=Option.some.inj a1
        obtain rfl:=Option.some.inj a3
        rw [hv] at a2
        obtain rfl:=Option.some.inj a2
        exact ⟨by rw [e1];rfl,rfl⟩
      · rw [List.getElem?_set_ne (fun q=>hjo q.symm)] at a1 a3
        exact h10 j r v f a1 a2 a3⟩
    (e2.mono (Mu.none_le _) (Wd.le.refl _) fun _ _=>rfl)
  have hrun:(execOp a.eval o).run C.P w=.ok (.value (.slice (m1.map fun b=>(⟨b,0,none⟩:Addr)) rows.length c1)) w:=by simp [execOp,ho,h2,Instr.loadAt,Instr.sureAddr,hr]
  refine wpIn_exec (notDefer hrun (fun e hc=>by cases hc)) ?_
  rw [hrun]
  have e2':=e2
  obtain ⟨_,q2,q3,_⟩:=e2'
  exact hK _ _ ⟨_,hsp.setv hd ⟨m1,c1,by simp [← hlen],by simpa using q3,by simp⟩⟩
theorem lop_st_give {T:TypeId} {x y:Operand} {k:TK} {sz by_:Nat} {ob g off n d gd nd len ty tyB es:Nat} {Ls:List (Option (List (List PVal)))} {rows:List (List PVal)} (ho:o.op=.store T x y) (hT:TI C.P T k sz by_) (hdst:o.dst=none) (hx:σ.look x=.o (.ptr ob g off)) (hy:σ.look y=.o (.osl d gd es 0 len)) (hm:σ.mem ob=(n,some (.abs (arrA ty tyB es Ls)))) (hn:n=g+1)
    (hs:sz=1) (hj:Ls[off]?=some none) (hmd:σ.mem d=(nd,some (.buf tyB es rows))) (hnd:nd=gd+1) (hlr:len=rows.length) (hne:d≠ob) :
    LOp C o σ ⟨.un,[(ob,(n,some (.abs (arrA ty tyB es (Ls.set off (some rows)))))),(d,(nd,none))]⟩ (fun q=>q == ob||q == d):=by
  refine ⟨fun x m h=>by simp at h;rcases h with ⟨rfl,_⟩ | ⟨rfl,_⟩<;>simp,fun τ hl hm' a w ⟨G,h⟩ K Q hK=>?_⟩
  subst hn hnd hlr hs
  have hmo:τ.mem ob=(g+1,some (.abs (arrA ty tyB es Ls))):=by rw [hm' ob (by simp)];exact hm
  have hmdd:τ.mem d=(gd+1,some (.buf tyB es rows)):=by rw [hm' d (by simp)];exact hmd
  obtain ⟨b,c',h1,h2⟩:=look_of h ((hl x (by simp [ho,Op.operands])).trans hx)
  obtain ⟨m1,c1,y1,y2,y3⟩:=look_of h ((hl y (by simp [ho,Op.operands])).trans hy)
  simp only [Nat.zero_mul,Nat.sub_zero] at y3
  obtain ⟨g',m',hg,hmm,b',h4,vs,fs,h5,h6,h7,h8,h9,h10⟩:=h.mem ob _ _ hmo
  obtain rfl:g=g':=by omega
  rw [h1] at hmm;obtain rfl:=Option.some.inj hmm
  simp only [Option.some.injEq] at h4;subst h4
  obtain ⟨g2,m2,hg2,hm2,d1⟩:=h.mem d _ _ hmdd
  obtain rfl:gd=g2:=by omega
  rw [y1] at hm2;obtain rfl:=Option.some.inj hm2
  have hjl:off < Ls.length:=(List.getElem?_eq_some_iff.1 hj).1
  have hv:vs[off]?=some (vs[off]'(by omega)):=List.getElem?_eq_getElem _
  have hf:fs[off]?=some (fs[off]'(by omega)):=List.getElem?_eq_getElem _
  have e2:fs[off]'(by omega)=[]:=(h10 off _ _ _ hj hv hf).2
  rw [e2] at hf
  have hsl:=flat_split hf
  have hse:=flat_set (f':=G.φ d) hf
  have hdn:(G.φ d).Nodup:=by
    obtain ⟨_,_,_,q⟩:=d1
    rcases q with ⟨_,_,q⟩ | ⟨b2,arr2,_,q,_⟩<;>rw [q]<;>simp
  have hdd:∀ k,k∈G.φ d→k ∉ b::fs.flatten:=fun k hk hk2=>h.apart d ob k hne hk (by rw [h8];exact hk2)
  have d1':(MO.buf tyB es rows).holds Mu.none ⟨w,G.S⟩ (m1,c1) (G.φ d):=d1
  -- the blocks first, then the cell
  let lo:AObj:=⟨fun X b0 fp=>∃ fp1 fp2,(arrA ty tyB es Ls).holds X b0 fp1∧fp1=G.φ ob∧fp2=G.φ d∧(MO.buf tyB es rows).holds Mu.none X (m1,c1) fp2∧fp=fp1++fp2,by
    rintro x y b0 fp hle hfp ⟨fp1,fp2,q1,q2,q3,q4,rfl⟩
    exact ⟨fp1,fp2,(arrA ty tyB es Ls).mono hle (fun k hk=>hfp k (List.mem_append_left _ hk)) q1,q2,q3,q4.mono (Mu.le.refl _) hle (fun k hk=>hfp k (List.mem_append_right _ hk)),rfl⟩⟩
  have hjn:=h.join (o:=ob) (d:=d) (moo:=.abs lo) hne hmo hmdd ⟨g,(some b,c'),rfl,h1,b,rfl,G.φ ob,G.φ d,⟨vs,fs,h5,h6,h7,h8,h9,h10⟩,rfl,rfl,d1,rfl⟩
  have hr:=run_storeVar hT (arr:=vs) h5 (off:=off) (v:=a.eval y) (by omega) (by rw [y3];rfl) (by rw [y3];intro u hu;simp [Value.cells] at hu;subst hu;rfl)
  rw [y3] at hr
  have hcells:(Value.slice (m1.map fun b=>(⟨b,0,none⟩:Addr)) rows.length c1).cells.toList=[Value.slice (m1.map fun b=>(⟨b,0,none⟩:Addr)) rows.length c1]:=rfl
  rw [hcells] at hr
  have hlenO:(G.μ ob).length=g+1:=by have:=h.gens ob;rw [hmo] at this;exact this
  have hbS:¬ G.S b:=h.stab ob b (by rw [h8];simp)
  have hle:Wd.le ⟨w,G.S⟩ ⟨w.setRow b (vs.take off++[Value.slice (m1.map fun b=>(⟨b,0,none⟩:Addr)) rows.length c1]++vs.drop (off+1)).toArray,G.S⟩:=fun k hk=>⟨hk,setRow_other w b k _ fun e=>hbS (e ▸ hk)⟩
  have hset:vs.take off++[Value.slice (m1.map fun b=>(⟨b,0,none⟩:Addr)) rows.length c1]++vs.drop (off+1)=vs.set off (.slice (m1.map fun b=>(⟨b,0,none⟩:Addr)) rows.length c1):=by
    rw [List.set_eq_take_append_cons_drop,if_pos (by omega),List.append_assoc];rfl
  have hbn:∀ k,k∈fs.flatten∨k∈G.φ d→k≠b:=fun k hk e=>by
    subst e
    rcases hk with hk|hk
    · rw [h8] at h9;exact (List.nodup_cons.1 h9).1 hk
    · exact hdd k hk List.mem_cons_self
  have hu:=hjn.upd (o:=ob) (n':=g+1) (mo':=some (.abs (arrA ty tyB es (Ls.set off (some rows))))) (μo:=G.μ ob) (fp':=b::(fs.set off (G.φ d)).flatten) (w':=w.setRow b (vs.take off++[Value.slice (m1.map fun b=>(⟨b,0,none⟩:Addr)) rows.length c1]++vs.drop (off+1)).toArray) (fun g x hx=>hx) hlenO
    setRow_frame.1 setRow_frame.2.1 setRow_frame.2.2.1 (Nat.le_of_eq setRow_frame.2.2.2) (fun q _ hq=>setRow_other w b q _ fun e=>hq (by simp only [if_true];rw [h8,e];simp)) (fun q hq=>by
      have hq':q∈G.φ ob++G.φ d:=by
        rw [hse] at hq
        rw [h8,hsl]
        rcases List.mem_cons.1 hq with rfl|hq
        · simp
        · rcases List.mem_append.1 hq with hq|hq
          · simp [hq]
          · rcases List.mem_append.1 hq with hq|hq
            · simp [hq]
            · simp [hq]
      refine ⟨.inl (by simpa using hq'),?_⟩
      rw [← setRow_frame.2.2.2]
      rcases List.mem_append.1 hq' with q1|q1
      · exact (h.own ob q q1).2
      · exact (h.own d q q1).2) (fun mo1 hmo1=>by
      obtain rfl:=Option.some.inj hmo1
      refine ⟨g,(some b,c'),rfl,h1,b,rfl,vs.set off (.slice (m1.map fun b=>(⟨b,0,none⟩:Addr)) rows.length c1),fs.set off (G.φ d),?_,by rw [List.length_set,List.length_set,h6],by rw [List.length_set,List.length_set,h7],rfl,?_,?_⟩
      · rw [← hset];exact setRow_heap w b _ _ ty _ h5
      · rw [hse]
        rw [h8,hsl] at h9
        have hA:=List.nodup_cons.1 h9
        have hB:=List.nodup_append.1 hA.2
        rw [hsl] at hdd
        refine List.nodup_cons.2 ⟨fun q=>?_,List.nodup_append.2 ⟨hB.1,List.nodup_append.2 ⟨hdn,by simpa using hB.2.1,fun x hx y hy e=>?_⟩,fun x hx y hy e=>?_⟩⟩
        · rcases List.mem_append.1 q with q|q
          · exact hA.1 (List.mem_append_left _ q)
          · rcases List.mem_append.1 q with q|q
            · exact hdd b q List.mem_cons_self
            · exact hA.1 (List.mem_append_right _ (by simpa using q))
        · subst e
          exact hdd x hx (List.mem_cons_of_mem _ (List.mem_append_right _ (by simpa using hy)))
        · subst e
          rcases List.mem_append.1 hy with hy|hy
          · exact hdd x hy (List.mem_cons_of_mem _ (List.mem_append_left _ hx))
          · exact hB.2.2 x hx x (by simpa using hy) rfl
      · intro j r v f a1 a2 a3
        by_cases hjo:j=off
        · subst hjo
          rw [List.getElem?_set_self hjl] at a1
          rw [List.getElem?_set_self (by omega)] at a2 a3
          obtain rfl:=Option.some.inj a1
          obtain rfl:=Option.some.inj a2
          obtain rfl:=Option.some.inj a3
          exact ⟨m1,c1,rfl,d1'.mono (Mu.le.refl _) hle fun k hk=>setRow_other w b k _ (hbn k (.inr hk))⟩
        · rw [List.getElem?_set_ne (fun q=>hjo q.symm)] at a1 a2 a3
          exact (h10 j r v f a1 a2 a3).mono hle fun k hk=>setRow_other w b k _ (hbn k (.inl (flat_mem a3 hk))))
  have hrun:(execOp a.eval o).run C.P w=.ok .skip (w.setRow b (vs.take off++[Value.slice (m1.map fun b=>(⟨b,0,none⟩:Addr)) rows.length c1]++vs.drop (off+1)).toArray):=by
    simp only [execOp,ho,h2,y3,Instr.storeAt,Instr.sureAddr,Sem.run_bind,Sem.run_pure,Result.andThen_ok,hr]
  refine wpIn_exec (notDefer hrun (fun e hc=>by cases hc)) ?_
  rw [hrun]
  have hfin:=hu.setv (d:=o.dst) (val:=.un) (v:=undef) (by rw [hdst];rfl) trivial
  have est:((τ.put d (gd+1,none)).put ob (g+1,some (.abs lo))).put ob (g+1,some (.abs (arrA ty tyB es (Ls.set off (some rows)))))=(τ.put d (gd+1,none)).put ob (g+1,some (.abs (arrA ty tyB es (Ls.set off (some rows))))):=by
    unfold St.put;congr 1;funext x;by_cases hx:x=ob<;>simp [hx]
  rw [est] at hfin
  exact hK _ _ ⟨_,hfin⟩
end ops
end Go.Aw
namespace Go.Proofs.YtkgploeegbmofaaGreat.Wi
open Go Go.RowKit Go.Aw Go.Aw.Cart Go.Proofs.YtkgploeegbmofaaGreat.Ca
set_option linter.unusedVariables false
set_option linter.unusedSimpArgs false
def c10:Crt:=([1,0,0,0,0,0,0,0],[(5,1,1,2)])
theorem z10_right:rightF zeroV []=true:=rightF_iff.2 ⟨by decide,by decide,by decide⟩
end Go.Proofs.YtkgploeegbmofaaGreat.Wi
