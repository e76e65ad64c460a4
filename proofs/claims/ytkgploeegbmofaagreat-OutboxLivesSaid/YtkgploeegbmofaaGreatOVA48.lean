/- outbox, the reference: what is sent -/
import Derived.Test.YtkgploeegbmofaaGreatOVA32
import Derived.Test.YtkgploeegbmofaaGreatOVA34
import Derived.Test.YtkgploeegbmofaaGreatOVA47
namespace Go.Proofs.YtkgploeegbmofaaGreat.Wi
open Go Go.RowKit Go.Aw Go.Aw.Cart Go.Aw.Tree Go.Proofs.YtkgploeegbmofaaGreat.Ca Go.Proofs.YtkgploeegbmofaaGreat.Rg
set_option linter.unusedVariables false
set_option linter.unusedSimpArgs false
set_option maxRecDepth 8000
set_option maxHeartbeats 4000000
theorem sl_room {α β:Type} {f:α→List PVal} {g:β→α} (P:List α) (L:List β) (x:β):((P++((L++[x]).map g).take 1)++((L++[x]).drop 1).map g).map f=(P++L.map g).map f++[f (g x)]:=by
 rw [List.append_assoc,List.map_drop,List.take_append_drop];simp
theorem sl_grow {α β:Type} {f:α→List PVal} {g:β→α} (P:List α) (L:List β) (x:β):(((L++[x]).map g).take 1++((L++[x]).drop 1).map g).map f=((P++L.map g).map f).drop P.length++[f (g x)]:=by
 rw [rx_drop,List.map_drop,List.take_append_drop];simp
theorem sl_take {α β:Type} {g:β→α} (L:List β) (x:β):(((L++[x]).map g).take 1).length=1:=by simp
open O9
open O3 (rnSH rkSH stoH3)
theorem rxSendF_o (n:Nat) (b:Bx) (m:Msg) (k:Int) (h:MIn m) (hr:rightM m=true) (q:¬ k < 0) (hl5:b.out.length=500) (hlo:0≤b.lost∧b.lost≤1000000):OCall Tryz.prog 38 [.o (.ptr 1000 n 0),mV m,.p (.i k)] (memL [(1000,(n+1,some (rxM b)))]) (.p (.i 0)) (memL [(1000,(n+1,some (rxM ⟨(b.out++[(m,k)]).drop 1,b.ans,b.lost+1⟩)))]):=by
 refine ocall_of1 Tryz.func38 rfl (fun w0 F S0 M0=>?_)
 have hd:=h.d32
 have h32:(m.dig.map bcD).length=32:=by rw [List.length_map];exact hd
 have z32:(zeroD.map bcD).length=32:=rfl
 have c1:=refRight26_w m h
 rw [hr] at c1
 haveI i1:PC Tryz.prog 84 [mV m] True (.p (.b true)):=⟨fun _=>c1⟩
 have d1:decide (k < 0)=false:=decide_eq_false q
 clear c1 hr
 obtain ⟨L,hL⟩:∃ L,L=b.out.length:=⟨_,rfl⟩
 have hL5:L=500:=by omega
 have d2:decide ((500:Int) < ((L+1:Nat):Int))=true:=decide_eq_true (by omega)
 repeat' (first|refine jx17 ?_|refine jy0 ?_ ?_|exact spF|refine spQ fun hq hq'=>?_|refine spN fun hn=>?_|fail)
 refine aws_unex (p:=1000) (f:=rxP b) rfl fun ⟨⟨P1,P2⟩,hP⟩=>?_
 refine aws_says (says_unpack4 (p:=1000) (a:=901) (b:=902) (c:=903) (d:=904) (la:=P1.length) (lb:=P2.length) (ka:=L) (kb:=L) rfl rfl rfl rfl rfl (by decide) ((rx_len P1 b.out).trans hL.symm) ((rx_len P2 b.out).trans hL.symm) (rx_l0 b.ans) (rx_l0 b.ans)) ?_
 have hW:((P1++b.out.map (·.1)).map mR).length=P1.length+L:=(rx_le P1 b.out).trans (by rw [hL])
 have hV:((P2++b.out.map (·.2)).map iRw).length=P2.length+L:=(rx_le P2 b.out).trans (by rw [hL])
 have e1:=sl_room (f:=mR) (g:=fun h:Hm=>h.1) P1 b.out (m,k)
 have e2:=sl_room (f:=iRw) (g:=fun h:Hm=>h.2) P2 b.out (m,k)
 have g1:=sl_grow (f:=mR) (g:=fun h:Hm=>h.1) P1 b.out (m,k)
 have g2:=sl_grow (f:=iRw) (g:=fun h:Hm=>h.2) P2 b.out (m,k)
 have t1:=sl_take (g:=fun h:Hm=>h.1) b.out (m,k)
 have t2:=sl_take (g:=fun h:Hm=>h.2) b.out (m,k)
 have hend2:((b.out++[(m,k)]).drop 1).length=500:=by rw [List.length_drop,List.length_append,List.length_singleton];omega
 generalize hWW:(P1++b.out.map (·.1)).map mR=W at hW e1 g1 ⊢
 generalize hVV:(P2++b.out.map (·.2)).map iRw=V at hV e2 g2 ⊢
 refine aws_capB 1000 0 (o:=901) rfl rfl rfl rfl (by decide) (by omega) fun c hc1 hc2 hc3=>?_
 refine aws_capB 1000 1 (o:=902) rfl rfl rfl rfl (by decide) (by omega) fun c' hc1' hc2' hc3'=>?_
 clear hWW hVV hl5 q
 by_cases h1:W.length+1≤c
 ·by_cases h2:V.length+1≤c'
  ·refine aws_draws [(8,901),(15,902),(18,1000),(21,1000)] mixed (by kernel_rfl) ?_
   repeat' (first|refine jx21 ?_|refine jy1 ?_ ?_|exact spF|refine spQ fun hq hq'=>?_|fail)
   repeat' (first|refine jx17 ?_|refine jy0 ?_ ?_|exact spF|refine spQ fun hq hq'=>?_|refine spN fun hn=>?_|fail)
   refine aws_draws [(20,1000),(23,1000),(26,1000)] mixed (by kernel_rfl) ?_
   repeat' (first|refine jx21 ?_|refine jy1 ?_ ?_|exact spF|refine spQ fun hq hq'=>?_|fail)
   repeat' (first|refine jx18 ?_|refine jy0 ?_ ?_|exact spF|refine spQ fun hq hq'=>?_|refine spN fun hn=>?_|fail)
   refine aws_says (says_uncapB 1000 0 (o:=901) (lo:=P1.length+1) (c:=c) (es:=40) (len:=L) (rows:=W++[mR m]) rfl rfl rfl rfl (by decide) (by show P1.length * 40+1 * 40=(P1.length+1) * 40;omega) (by show c - P1.length - 1=c - (P1.length+1);omega) (by rw [List.length_append,List.length_singleton];omega)) ?_
   refine aws_says (says_uncapB 1000 1 (o:=902) (lo:=P2.length+1) (c:=c') (es:=1) (len:=L) (rows:=V++[iRw k]) rfl rfl rfl rfl (by decide) (by show P2.length * 1+1 * 1=(P2.length+1) * 1;omega) (by show c' - P2.length - 1=c' - (P2.length+1);omega) (by rw [List.length_append,List.length_singleton];omega)) ?_
   refine aws_says (says_pack4 (p:=1000) (a:=901) (b:=902) (c:=903) (d:=904) (la:=P1.length+1) (lb:=P2.length+1) rfl rfl rfl rfl rfl rfl rfl rfl rfl (by simp;omega) (by simp;omega) (rx_l0 b.ans) (rx_l0 b.ans) (by decide)) ?_
   refine aws_says (says_toexE (p:=1000) (f:=rxP ⟨(b.out++[(m,k)]).drop 1,b.ans,b.lost+1⟩) ⟨(P1++((b.out++[(m,k)]).map fun h:Hm=>h.1).take 1,P2++((b.out++[(m,k)]).map fun h:Hm=>h.2).take 1),.inr hend2⟩ rfl (by
    show _=rxL _ _ _ _ _
    rw [List.length_append,t1,e1,List.length_append,t2,e2]
    try rfl)) ?_
   as_aux_lemma=>
    repeat' (first|refine jx17 ?_|refine jy0 ?_ ?_|exact spF|refine spQ fun hq hq'=>?_|refine spN fun hn=>?_|fail)
    exact RetO.mk (ot1 rfl rfl finS_p rfl) ⟨.abs,trivial⟩
  ·refine aws_draws [(8,901),(15,902),(18,1000),(21,1000)] mixed (by kernel_rfl) ?_
   repeat' (first|refine jx21 ?_|refine jy1 ?_ ?_|exact spF|refine spQ fun hq hq'=>?_|fail)
   repeat' (first|refine jx17 ?_|refine jy0 ?_ ?_|exact spF|refine spQ fun hq hq'=>?_|refine spN fun hn=>?_|fail)
   refine aws_draws [(20,1000),(23,1000),(26,1000)] mixed (by kernel_rfl) ?_
   repeat' (first|refine jx21 ?_|refine jy1 ?_ ?_|exact spF|refine spQ fun hq hq'=>?_|fail)
   repeat' (first|refine jx18 ?_|refine jy0 ?_ ?_|exact spF|refine spQ fun hq hq'=>?_|refine spN fun hn=>?_|fail)
   refine aws_says (says_uncapB 1000 0 (o:=901) (lo:=P1.length+1) (c:=c) (es:=40) (len:=L) (rows:=W++[mR m]) rfl rfl rfl rfl (by decide) (by show P1.length * 40+1 * 40=(P1.length+1) * 40;omega) (by show c - P1.length - 1=c - (P1.length+1);omega) (by rw [List.length_append,List.length_singleton];omega)) ?_
   refine aws_says (says_pack4 (p:=1000) (a:=901) (b:=902) (c:=903) (d:=904) (la:=P1.length+1) (lb:=1) rfl rfl rfl rfl rfl rfl rfl rfl rfl (by simp;omega) (by simp;omega) (rx_l0 b.ans) (rx_l0 b.ans) (by decide)) ?_
   refine aws_says (says_toexE (p:=1000) (f:=rxP ⟨(b.out++[(m,k)]).drop 1,b.ans,b.lost+1⟩) ⟨(P1++((b.out++[(m,k)]).map fun h:Hm=>h.1).take 1,((b.out++[(m,k)]).map fun h:Hm=>h.2).take 1),.inr hend2⟩ rfl (by
    show _=rxL _ _ _ _ _
    rw [List.length_append,t1,e1,t2,g2]
    try rfl)) ?_
   as_aux_lemma=>
    repeat' (first|refine jx17 ?_|refine jy0 ?_ ?_|exact spF|refine spQ fun hq hq'=>?_|refine spN fun hn=>?_|fail)
    exact RetO.mk (ot1 rfl rfl finS_p rfl) ⟨.abs,trivial⟩
 ·by_cases h2:V.length+1≤c'
  ·refine aws_draws [(8,901),(15,902),(18,1000),(21,1000)] mixed (by kernel_rfl) ?_
   repeat' (first|refine jx21 ?_|refine jy1 ?_ ?_|exact spF|refine spQ fun hq hq'=>?_|fail)
   repeat' (first|refine jx17 ?_|refine jy0 ?_ ?_|exact spF|refine spQ fun hq hq'=>?_|refine spN fun hn=>?_|fail)
   refine aws_draws [(20,1000),(23,1000),(26,1000)] mixed (by kernel_rfl) ?_
   repeat' (first|refine jx21 ?_|refine jy1 ?_ ?_|exact spF|refine spQ fun hq hq'=>?_|fail)
   repeat' (first|refine jx18 ?_|refine jy0 ?_ ?_|exact spF|refine spQ fun hq hq'=>?_|refine spN fun hn=>?_|fail)
   refine aws_says (says_uncapB 1000 1 (o:=902) (lo:=P2.length+1) (c:=c') (es:=1) (len:=L) (rows:=V++[iRw k]) rfl rfl rfl rfl (by decide) (by show P2.length * 1+1 * 1=(P2.length+1) * 1;omega) (by show c' - P2.length - 1=c' - (P2.length+1);omega) (by rw [List.length_append,List.length_singleton];omega)) ?_
   refine aws_says (says_pack4 (p:=1000) (a:=901) (b:=902) (c:=903) (d:=904) (la:=1) (lb:=P2.length+1) rfl rfl rfl rfl rfl rfl rfl rfl rfl (by simp;omega) (by simp;omega) (rx_l0 b.ans) (rx_l0 b.ans) (by decide)) ?_
   refine aws_says (says_toexE (p:=1000) (f:=rxP ⟨(b.out++[(m,k)]).drop 1,b.ans,b.lost+1⟩) ⟨(((b.out++[(m,k)]).map fun h:Hm=>h.1).take 1,P2++((b.out++[(m,k)]).map fun h:Hm=>h.2).take 1),.inr hend2⟩ rfl (by
    show _=rxL _ _ _ _ _
    rw [t1,g1,List.length_append,t2,e2]
    try rfl)) ?_
   as_aux_lemma=>
    repeat' (first|refine jx17 ?_|refine jy0 ?_ ?_|exact spF|refine spQ fun hq hq'=>?_|refine spN fun hn=>?_|fail)
    exact RetO.mk (ot1 rfl rfl finS_p rfl) ⟨.abs,trivial⟩
  ·refine aws_draws [(8,901),(15,902),(18,1000),(21,1000)] mixed (by kernel_rfl) ?_
   repeat' (first|refine jx21 ?_|refine jy1 ?_ ?_|exact spF|refine spQ fun hq hq'=>?_|fail)
   repeat' (first|refine jx17 ?_|refine jy0 ?_ ?_|exact spF|refine spQ fun hq hq'=>?_|refine spN fun hn=>?_|fail)
   refine aws_draws [(20,1000),(23,1000),(26,1000)] mixed (by kernel_rfl) ?_
   repeat' (first|refine jx21 ?_|refine jy1 ?_ ?_|exact spF|refine spQ fun hq hq'=>?_|fail)
   repeat' (first|refine jx18 ?_|refine jy0 ?_ ?_|exact spF|refine spQ fun hq hq'=>?_|refine spN fun hn=>?_|fail)
   refine aws_says (says_pack4 (p:=1000) (a:=901) (b:=902) (c:=903) (d:=904) (la:=1) (lb:=1) rfl rfl rfl rfl rfl rfl rfl rfl rfl (by simp;omega) (by simp;omega) (rx_l0 b.ans) (rx_l0 b.ans) (by decide)) ?_
   refine aws_says (says_toexE (p:=1000) (f:=rxP ⟨(b.out++[(m,k)]).drop 1,b.ans,b.lost+1⟩) ⟨(((b.out++[(m,k)]).map fun h:Hm=>h.1).take 1,((b.out++[(m,k)]).map fun h:Hm=>h.2).take 1),.inr hend2⟩ rfl (by
    show _=rxL _ _ _ _ _
    rw [t1,g1,t2,g2]
    try rfl)) ?_
   as_aux_lemma=>
    repeat' (first|refine jx17 ?_|refine jy0 ?_ ?_|exact spF|refine spQ fun hq hq'=>?_|refine spN fun hn=>?_|fail)
    exact RetO.mk (ot1 rfl rfl finS_p rfl) ⟨.abs,trivial⟩
theorem rxSendL_o (n:Nat) (b:Bx) (m:Msg) (k:Int) (h:MIn m) (hf:b.out.length < 500∨sendE m k≠0) (hlo:0≤b.lost∧b.lost≤1000000):OCall Tryz.prog 38 [.o (.ptr 1000 n 0),mV m,.p (.i k)] (memL [(1000,(n+1,some (rxM b)))]) (.p (.i (sendE m k))) (memL [(1000,(n+1,some (rxM (sendB b m k))))]):=by
 refine ocall_of1 Tryz.func38 rfl (fun w0 F S0 M0=>?_)
 have hd:=h.d32
 have h32:(m.dig.map bcD).length=32:=by rw [List.length_map];exact hd
 have z32:(zeroD.map bcD).length=32:=rfl
 have c1:=refRight26_w m h
 have hf5:rightM m=true→¬ k < 0→b.out.length < 500:=fun hr q=>by
  rcases hf with h|h
  ·exact h
  ·exact absurd (by unfold sendE askF;rw [hr,if_neg (by decide),if_neg q]) h
 clear hf
 unfold sendB sendE
 generalize rightM m=R at c1 hf5 ⊢
 haveI i1:PC Tryz.prog 84 [mV m] True (.p (.b R)):=⟨fun _=>c1⟩
 clear c1
 cases R with
 | false=>
  rw [if_pos rfl,if_neg (by decide)]
  as_aux_lemma=>
   repeat' (first|refine jx17 ?_|refine jy0 ?_ ?_|exact spF|refine spQ fun hq hq'=>?_|refine spN fun hn=>?_|fail)
   exact RetO.mk (ot1 rfl rfl finS_p rfl) ⟨.abs,trivial⟩
 | true=>
  rw [if_neg (by decide)]
  unfold askF
  by_cases q:k < 0
  ·have d1:decide (k < 0)=true:=decide_eq_true q
   rw [if_pos q,if_neg (by decide)]
   as_aux_lemma=>
    repeat' (first|refine jx17 ?_|refine jy0 ?_ ?_|exact spF|refine spQ fun hq hq'=>?_|refine spN fun hn=>?_|fail)
    exact RetO.mk (ot1 rfl rfl finS_p rfl) ⟨.abs,trivial⟩
  have d1:decide (k < 0)=false:=decide_eq_false q
  rw [if_neg q,if_pos rfl]
  have hf5:=hf5 rfl q
  unfold putB
  rw [if_pos hf5]
  obtain ⟨L,hL⟩:∃ L,L=b.out.length:=⟨_,rfl⟩
  have hL5:L < 500:=by omega
  have d2:decide ((500:Int) < ((b.out.map (·.1)++[m]).length:Int))=false:=decide_eq_false (by rw [List.length_append,List.length_singleton,List.length_map];omega)
  have l1:(b.out.map (·.1)).length < 500:=by rw [List.length_map];exact hf5
  have l2:(b.out.map (·.2)).length < 500:=by rw [List.length_map];exact hf5
  repeat' (first|refine jx17 ?_|refine jy0 ?_ ?_|exact spF|refine spQ fun hq hq'=>?_|refine spN fun hn=>?_|fail)
  refine aws_unex (p:=1000) (f:=rxP b) rfl fun ⟨⟨P1,P2⟩,hP⟩=>?_
  obtain ⟨rfl,rfl⟩:P1=[]∧P2=[]:=by rcases hP with h|h;exact h;omega
  refine aws_says (says_unpack4 (p:=1000) (a:=901) (b:=902) (c:=903) (d:=904) (la:=0) (lb:=0) (ra:=(b.out.map (·.1)).map mR) (rb:=(b.out.map (·.2)).map iRw) rfl rfl rfl rfl rfl (by decide) (List.length_map _) (List.length_map _) (rx_l0 b.ans) (rx_l0 b.ans)) ?_
  refine aws_draws [(8,901),(15,902),(18,1000),(21,1000)] mixed (by kernel_rfl) ?_
  repeat' (first|refine jx21 ?_|refine jy1 ?_ ?_|exact spF|refine spQ fun hq hq'=>?_|fail)
  repeat' (first|refine jx18 ?_|refine jy0 ?_ ?_|exact spF|refine spQ fun hq hq'=>?_|refine spN fun hn=>?_|fail)
  refine aws_says (says_pack4 (p:=1000) (a:=901) (b:=902) (c:=903) (d:=904) (la:=0) (lb:=0) rfl rfl rfl rfl rfl rfl rfl rfl rfl ((List.length_map _).trans (Nat.zero_add _).symm) ((List.length_map _).trans (Nat.zero_add _).symm) (rx_l0 b.ans) (rx_l0 b.ans) (by decide)) ?_
  refine aws_says (says_toexE (p:=1000) (f:=rxP ⟨b.out++[(m,k)],b.ans,b.lost⟩) ⟨([],[]),.inl ⟨rfl,rfl⟩⟩ rfl (by simp [rxP,rxL])) ?_
  as_aux_lemma=>
   repeat' (first|refine jx17 ?_|refine jy0 ?_ ?_|exact spF|refine spQ fun hq hq'=>?_|refine spN fun hn=>?_|fail)
   exact RetO.mk (ot1 rfl rfl finS_p rfl) ⟨.abs,trivial⟩
theorem rxSend_o (n:Nat) (b:Bx) (m:Msg) (k:Int) (h:MIn m) (hl:b.out.length≤500) (hlo:0≤b.lost∧b.lost≤1000000):OCall Tryz.prog 38 [.o (.ptr 1000 n 0),mV m,.p (.i k)] (memL [(1000,(n+1,some (rxM b)))]) (.p (.i (sendE m k))) (memL [(1000,(n+1,some (rxM (sendB b m k))))]):=by
 by_cases hf:b.out.length < 500∨sendE m k≠0
 ·exact rxSendL_o n b m k h hf hlo
 have he:sendE m k=0:=Classical.byContradiction fun q=>hf (.inr q)
 have hr:rightM m=true:=by
  unfold sendE at he
  cases q:rightM m with
  | true=>rfl
  | false=>rw [q,if_pos rfl] at he;cases he
 have hq:¬ k < 0:=fun q=>by
  unfold sendE askF at he
  rw [hr,if_neg (by decide),if_pos q] at he
  cases he
 have:=rxSendF_o n b m k h hr hq (by have:¬ b.out.length < 500:=fun q=>hf (.inl q);omega) hlo
 unfold sendB putB
 rw [if_pos he,if_neg (fun q=>hf (.inl q)),he]
 exact this
instance rxSend_i {c g n:Nat} {b:Bx} {m:Msg} {k:Int}:OC Tryz.prog 38 [.o (.ptr c g 0),mV m,.p (.i k)] [(c,(n,some (rxM b)))] [] (n=g+1∧MIn m∧b.out.length≤500∧0≤b.lost∧b.lost≤1000000) (.p (.i (sendE m k))) [(c,(n,some (rxM (sendB b m k))))]:=⟨fun h=>by
 obtain ⟨rfl,h1,h2,h3⟩:=h
 have:=(rxSend_o g b m k h1 h2 h3).one c
 simp only [List.map_cons,List.map_nil] at this
 rw [show AV.ren (rn1 c) (mV m)=mV m by rw [show mV m=.a ((mR m).map .p) by rw [← mL_eq]];show AV.a (((mR m).map AC.p).map (AC.ren (rn1 c)))=_;rw [List.map_map];rfl] at this
 exact this⟩
end Go.Proofs.YtkgploeegbmofaaGreat.Wi
