/- outbox, the reference: replies let out; marks that are shifted -/
import Derived.Test.YtkgploeegbmofaaGreatOVA32
namespace Go.Proofs.YtkgploeegbmofaaGreat.Wi
open Go Go.RowKit Go.Aw Go.Aw.Cart Go.Aw.Tree Go.Proofs.YtkgploeegbmofaaGreat.Ca Go.Proofs.YtkgploeegbmofaaGreat.Rg
set_option linter.unusedVariables false
set_option linter.unusedSimpArgs false
set_option maxRecDepth 8000
set_option maxHeartbeats 4000000
open OT
open O3 (rnSH rkSH stoH3)
theorem rxTold_o (n:Nat) (b:Bx) (s:Int) (hl:b.ans.length≤1000000):OCall Tryz.prog 42 [.o (.ptr 1000 n 0),.p (.i s)] (memL [(1000,(n+1,some (rxM b)))]) (.p (.sl 3 ((goneA b.ans s).map aR) false)) (memL [(1000,(n+1,some (rxM ⟨b.out,waitA b.ans s,b.lost⟩)))]):=by
 refine ocall_of1 Tryz.func42 rfl (fun w0 F S0 M0=>?_)
 refine aws_unex (p:=1000) (f:=rxP b) rfl fun ⟨⟨P1,P2⟩,hP⟩=>?_
 refine aws_says (says_unpack4 (p:=1000) (a:=901) (b:=902) (c:=903) (d:=904) (la:=P1.length) (lb:=P2.length) rfl rfl rfl rfl rfl (by decide) (rx_len P1 b.out) (rx_len P2 b.out) (rx_l0 b.ans) (rx_l0 b.ans)) ?_
 obtain ⟨A,hA⟩:∃ A,A=b.ans.map (·.1):=⟨_,rfl⟩
 obtain ⟨B,hB⟩:∃ B,B=b.ans.map (·.2):=⟨_,rfl⟩
 have lA:A.length=b.ans.length:=by rw [hA,List.length_map]
 have lB:B.length=b.ans.length:=by rw [hB,List.length_map]
 refine aws_says (says_frz_lo (p:=1000) (o:=903) (k:=2) (lo:=0) (ds:=[.osl 901 0 40 P1.length b.out.length,.osl 902 0 1 P2.length b.out.length,.p (.sl 3 (A.map aR) false),.osl 904 0 1 0 b.ans.length,.p (.i b.lost)]) rfl rfl (by rw [List.drop_zero,← hA];rfl) rfl rfl (by simp) (by decide)) ?_
 refine aws_says (says_frz_lo (p:=1000) (o:=904) (k:=3) (lo:=0) (ds:=[.osl 901 0 40 P1.length b.out.length,.osl 902 0 1 P2.length b.out.length,.p (.sl 3 (A.map aR) false),.p (.sl 1 (B.map iRw) false),.p (.i b.lost)]) rfl rfl (by rw [List.drop_zero,← hB];rfl) rfl rfl (by simp) (by decide)) ?_
 repeat' (first|refine jx17 ?_|refine jy0 ?_ ?_|exact spF|refine spQ fun hq hq'=>?_|refine spN fun hn=>?_|fail)
 refine aws_says (says_nil (t:=5) (o:=911) (es:=3) (ty:=95) rfl rfl (by decide)) ?_
 refine aws_says (says_nil (t:=6) (o:=912) (es:=3) (ty:=95) rfl rfl (by decide)) ?_
 refine aws_says (says_nil (t:=7) (o:=913) (es:=1) (ty:=3) rfl rfl (by decide)) ?_
 refine aws_loopS [5,6,7,8,9,10,11,12,13,14,15,16,17,18,19,20,21,22,23,24,25,26,27,28,29,30,31,32,33,34,35,36,37,38,39,40,41,42,43,44,45,46,47,48,49,50,51,52,53,54,55,56] [911,912,913] (fun (x:Nat × Nat × Nat × List Ans × List Ha)=>[(8,.p (.i x.1)),(5,.o (.osl 911 x.2.1 3 0 x.2.2.2.1.length)),(6,.o (.osl 912 x.2.2.1 3 0 (x.2.2.2.2.map (·.1)).length)),(7,.o (.osl 913 x.2.2.1 1 0 (x.2.2.2.2.map (·.2)).length))]) (fun x=>[(911,(x.2.1+1,some (.buf 95 3 (x.2.2.2.1.map aR)))),(912,(x.2.2.1+1,some (.buf 95 3 ((x.2.2.2.2.map (·.1)).map aR)))),(913,(x.2.2.1+1,some (.buf 3 1 ((x.2.2.2.2.map (·.2)).map iRw))))]) (fun x=>x.1≤b.ans.length∧x.2.2.2.1=goneA (b.ans.take x.1) s∧x.2.2.2.2=waitA (b.ans.take x.1) s) (fun x=>b.ans.length - x.1) (0,0,0,[],[]) ⟨Nat.zero_le _,rfl,rfl⟩ (by exact knA) (by exact knA) ?_
 rintro ⟨i,g,v,G,V⟩ β γ ⟨hi,hG,hV⟩
 dsimp only at hi hG hV ⊢
 have hGl:G.length≤1000000:=by
  rw [hG];unfold goneA;rw [List.length_map]
  have:=List.length_filter_le (fun h:Ha=>decide (h.2≤s)) (b.ans.take i)
  rw [List.length_take] at this;omega
 have hVl:V.length≤1000000:=by
  rw [hV];unfold waitA
  have:=List.length_filter_le (fun h:Ha=>!decide (h.2≤s)) (b.ans.take i)
  rw [List.length_take] at this;omega
 have hV1:(V.map (·.1)).length≤1000000:=by rw [List.length_map];exact hVl
 have hV2:(V.map (·.2)).length≤1000000:=by rw [List.length_map];exact hVl
 by_cases hil:i < b.ans.length
 ·have d1:decide ((i:Int) < (A.length:Int))=true:=decide_eq_true (by omega)
  have ei:(i:Int).toNat=i:=Int.toNat_natCast i
  have hg:=goneA_take (s:=s) hil
  have hw:=waitA_take (s:=s) hil
  have eA:b.ans.getD i default=(A.getD (i:Int).toNat default,B.getD (i:Int).toNat default):=by
   rw [ei,hA,hB,map_getD (·.1) hil,map_getD (·.2) hil]
  rw [← hG,eA] at hg
  rw [← hV,eA] at hw
  clear hG hV
  by_cases q:B.getD (i:Int).toNat default≤s
  ·have d2:decide (B.getD (i:Int).toNat default≤s)=true:=decide_eq_true q
   rw [if_pos q] at hg hw
   rw [List.append_nil] at hw
   as_aux_lemma=>
    repeat' (first|refine jx17 ?_|refine jy0 ?_ ?_|exact spF|refine spQ fun hq hq'=>?_|refine spN fun hn=>?_|fail)
    exact ⟨(i+1,g+1,v,G++[A.getD (i:Int).toNat default],V),_,by dsimp only;omega,⟨by dsimp only;omega,hg.symm,hw.symm⟩,.refl,by exact frA⟩
  ·have d2:decide (B.getD (i:Int).toNat default≤s)=false:=decide_eq_false q
   rw [if_neg q] at hg hw
   rw [List.append_nil] at hg
   repeat' (first|refine jx17 ?_|refine jy0 ?_ ?_|exact spF|refine spQ fun hq hq'=>?_|refine spN fun hn=>?_|fail)
   refine aws_draws [(9,912),(19,913)] mixed (by kernel_rfl) ?_
   repeat' (first|refine jx21 ?_|refine jy1 ?_ ?_|exact spF|refine spQ fun hq hq'=>?_|fail)
   as_aux_lemma=>
    repeat' (first|refine jx17 ?_|refine jy0 ?_ ?_|exact spF|refine spQ fun hq hq'=>?_|refine spN fun hn=>?_|fail)
    exact ⟨(i+1,g,v+1,G,V++[(A.getD (i:Int).toNat default,B.getD (i:Int).toNat default)]),_,by dsimp only;omega,⟨by dsimp only;omega,hg.symm,hw.symm⟩,.refl,by simp only [List.map_append,List.map_cons,List.map_nil];exact frA⟩
 ·have d1:decide ((i:Int) < (A.length:Int))=false:=decide_eq_false (by omega)
  obtain rfl:i=b.ans.length:=by omega
  rw [List.take_length] at hG hV
  rw [← hG,← hV]
  clear hG hV
  repeat' (first|refine jx18 ?_|refine jy0 ?_ ?_|exact spF|refine spQ fun hq hq'=>?_|refine spN fun hn=>?_|fail)
  refine aws_says (says_pack4 (p:=1000) (a:=901) (b:=902) (c:=912) (d:=913) (la:=P1.length) (lb:=P2.length) rfl rfl rfl rfl rfl rfl rfl rfl rfl (rx_le P1 b.out) (rx_le P2 b.out) (List.length_map _) (List.length_map _) (by decide)) ?_
  refine aws_says (says_toexE (p:=1000) (f:=rxP ⟨b.out,V,b.lost⟩) ⟨(P1,P2),hP⟩ rfl rfl) ?_
  as_aux_lemma=>
   repeat' (first|refine jx17 ?_|refine jy0 ?_ ?_|exact spF|refine spQ fun hq hq'=>?_|refine spN fun hn=>?_|fail)
   exact RetO.mk (ot1 rfl rfl (.one (finC_map rfl rfl rfl rfl)) rfl) ⟨.abs,trivial⟩
theorem rxTold_i {c g n:Nat} {b:Bx} {s:Int}:OC Tryz.prog 42 [.o (.ptr c g 0),.p (.i s)] [(c,(n,some (rxM b)))] [] (n=g+1∧b.ans.length≤1000000) (.p (.sl 3 ((goneA b.ans s).map aR) false)) [(c,(n,some (rxM ⟨b.out,waitA b.ans s,b.lost⟩)))]:=⟨fun h=>by obtain ⟨rfl,h1⟩:=h;exact (rxTold_o g b s h1).one c⟩
theorem ints_set {P l:List Int} {i:Nat} (h:i < l.length):(P++(List.replicate i 0++l.drop i)).set (P.length+i) 0=P++(List.replicate (i+1) 0++l.drop (i+1)):=by
 rw [List.set_append_right _ _ (Nat.le_add_right _ _),Nat.add_sub_cancel_left,List.set_append_right _ _ (by rw [List.length_replicate];exact Nat.le_refl _),List.length_replicate,Nat.sub_self,List.drop_eq_getElem_cons h,List.set_cons_zero,List.replicate_succ',List.append_assoc];rfl
theorem ints_len (P l:List Int) {i:Nat} (h:i≤l.length):(P++(List.replicate i 0++l.drop i)).length=P.length+l.length:=by
 simp only [List.length_append,List.length_replicate,List.length_drop];omega
theorem zmk_marks {α:Type} (l:List (α × Int)):(zmk l).map (·.2)=List.replicate l.length 0:=by
 unfold zmk
 rw [List.map_map]
 exact List.map_eq_replicate_iff.2 fun _ _=>rfl
theorem zmk_fst {α:Type} (l:List (α × Int)):(zmk l).map (·.1)=l.map (·.1):=by
 unfold zmk
 rw [List.map_map];rfl
theorem zmk_l {α:Type} (l:List (α × Int)):(zmk l).length=l.length:=by unfold zmk;rw [List.length_map]
theorem rxShift_o (n:Nat) (b:Bx) (hl:b.out.length≤1000000) (hla:b.ans.length≤1000000):OCall Tryz.prog 44 [.o (.ptr 1000 n 0)] (memL [(1000,(n+1,some (rxM b)))]) (.tup []) (memL [(1000,(n+1,some (rxM ⟨zmk b.out,zmk b.ans,b.lost⟩)))]):=by
 refine ocall_of1 Tryz.func44 rfl (fun w0 F S0 M0=>?_)
 refine aws_unex (p:=1000) (f:=rxP b) rfl fun ⟨⟨P1,P2⟩,hP⟩=>?_
 refine aws_says (says_unpack4 (p:=1000) (a:=901) (b:=902) (c:=903) (d:=904) (la:=P1.length) (lb:=P2.length) rfl rfl rfl rfl rfl (by decide) (rx_len P1 b.out) (rx_len P2 b.out) (rx_l0 b.ans) (rx_l0 b.ans)) ?_
 obtain ⟨B,hB⟩:∃ B,B=b.out.map (·.2):=⟨_,rfl⟩
 obtain ⟨D,hD⟩:∃ D,D=b.ans.map (·.2):=⟨_,rfl⟩
 have lB:B.length=b.out.length:=by rw [hB,List.length_map]
 have lD:D.length=b.ans.length:=by rw [hD,List.length_map]
 repeat' (first|refine jx17 ?_|refine jy0 ?_ ?_|exact spF|refine spQ fun hq hq'=>?_|refine spN fun hn=>?_|fail)
 refine aws_loopS [2,4,5,6,7,8,9,10,11,12,13,14,15,16,17,18] [902] (fun (x:Nat × List Int)=>[(2,.p (.i x.1))]) (fun x=>[(902,(1,some (.buf 3 1 (x.2.map iRw))))]) (fun x=>x.1≤b.out.length∧x.2=P2++(List.replicate x.1 0++B.drop x.1)) (fun x=>b.out.length - x.1) (0,P2++B) ⟨Nat.zero_le _,rfl⟩ (by exact knA) (by rw [hB];exact knA) ?_
 rintro ⟨i,E⟩ β γ ⟨hi,hE⟩
 dsimp only at hi hE ⊢
 have hEl:E.length=P2.length+b.out.length:=by rw [hE,← lB];exact ints_len _ _ (by omega)
 by_cases hil:i < b.out.length
 ·have d1:decide ((i:Int) < (b.out.length:Int))=true:=decide_eq_true (by omega)
  have ei:(i:Int).toNat=i:=Int.toNat_natCast i
  have hs:=ints_set (P:=P2) (l:=B) (show i < B.length by omega)
  rw [← hE] at hs
  rw [← ei] at hs
  clear hE
  as_aux_lemma=>
   repeat' (first|refine jx17 ?_|refine jy0 ?_ ?_|exact spF|refine spQ fun hq hq'=>?_|refine spN fun hn=>?_|fail)
   exact ⟨(i+1,E.set (P2.length+(i:Int).toNat) 0),_,by dsimp only;omega,⟨by dsimp only;omega,by dsimp only;rw [hs,ei]⟩,.refl,by exact frA⟩
 have d1:decide ((i:Int) < (b.out.length:Int))=false:=decide_eq_false (by omega)
 obtain rfl:i=b.out.length:=by omega
 rw [← lB,List.drop_length,List.append_nil,lB,← zmk_marks] at hE
 subst hE
 repeat' (first|refine jx17 ?_|refine jy0 ?_ ?_|exact spF|refine spQ fun hq hq'=>?_|refine spN fun hn=>?_|fail)
 refine aws_loopS [3,19,20,21,22,23,24,25,26,27,28,29,30,31,32,33] [904] (fun (x:Nat × List Int)=>[(3,.p (.i x.1))]) (fun x=>[(904,(1,some (.buf 3 1 (x.2.map iRw))))]) (fun x=>x.1≤b.ans.length∧x.2=[]++(List.replicate x.1 0++D.drop x.1)) (fun x=>b.ans.length - x.1) (0,D) ⟨Nat.zero_le _,rfl⟩ (by exact knA) (by rw [hD];exact knA) ?_
 rintro ⟨j,E⟩ β γ ⟨hj,hE⟩
 dsimp only at hj hE ⊢
 have hEl:E.length=b.ans.length:=by rw [hE,ints_len _ _ (by omega),lD];exact Nat.zero_add _
 by_cases hjl:j < b.ans.length
 ·have d2:decide ((j:Int) < (b.ans.length:Int))=true:=decide_eq_true (by omega)
  have ej:(j:Int).toNat=j:=Int.toNat_natCast j
  have hs:=ints_set (P:=[]) (l:=D) (show j < D.length by omega)
  rw [← hE,List.length_nil,Nat.zero_add] at hs
  rw [← ej] at hs
  clear hE
  as_aux_lemma=>
   repeat' (first|refine jx17 ?_|refine jy0 ?_ ?_|exact spF|refine spQ fun hq hq'=>?_|refine spN fun hn=>?_|fail)
   exact ⟨(j+1,E.set (j:Int).toNat 0),_,by dsimp only;omega,⟨by dsimp only;omega,by dsimp only;rw [hs,ej]⟩,.refl,by exact frA⟩
 obtain rfl:j=b.ans.length:=by omega
 rw [List.nil_append,← lD,List.drop_length,List.append_nil,lD,← zmk_marks] at hE
 subst hE
 clear d1 hil hjl
 repeat' (first|refine jx17 ?_|fail)
 refine aws_says (says_pack4 (p:=1000) (a:=901) (b:=902) (c:=903) (d:=904) (la:=P1.length) (lb:=P2.length) rfl rfl rfl rfl rfl rfl rfl rfl rfl (rx_le P1 b.out) ((rx_le P2 (zmk b.out)).trans (by rw [zmk_l])) (List.length_map _ |>.trans (List.length_map _)) (by rw [List.length_map,List.length_map,zmk_l]) (by decide)) ?_
 refine aws_says (says_toexE (p:=1000) (f:=rxP ⟨zmk b.out,zmk b.ans,b.lost⟩) ⟨(P1,P2),by rw [show (zmk b.out).length=b.out.length from zmk_l _];exact hP⟩ rfl (by simp only [rxP,rxL,zmk_fst])) ?_
 have d2:decide ((b.ans.length:Int) < (b.ans.length:Int))=false:=decide_eq_false (by omega)
 as_aux_lemma=>
  repeat' (first|refine jx17 ?_|refine jy0 ?_ ?_|exact spF|refine spQ fun hq hq'=>?_|refine spN fun hn=>?_|fail)
  exact RetO.mk (res0 rfl rfl) ⟨.abs,trivial⟩
theorem rxShift_i {c g n:Nat} {b:Bx}:OC Tryz.prog 44 [.o (.ptr c g 0)] [(c,(n,some (rxM b)))] [] (n=g+1∧b.out.length≤1000000∧b.ans.length≤1000000) (.tup []) [(c,(n,some (rxM ⟨zmk b.out,zmk b.ans,b.lost⟩)))]:=⟨fun h=>by obtain ⟨rfl,h1,h2⟩:=h;exact (rxShift_o g b h1 h2).one c⟩
end Go.Proofs.YtkgploeegbmofaaGreat.Wi
