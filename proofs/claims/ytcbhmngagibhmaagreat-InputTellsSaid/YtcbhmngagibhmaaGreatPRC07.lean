/- inputs, the reference: written -/
import Derived.Test.YtcbhmngagibhmaaGreatPRC04
import Derived.Test.YtcbhmngagibhmaaGreatPRC02
import Derived.Test.YtcbhmngagibhmaaGreatPRA25
import Derived.Test.YtcbhmngagibhmaaGreatPRC08
import Derived.Test.YtcbhmngagibhmaaGreatPRA33
namespace Go.Proofs.YtcbhmngagibhmaaGreat.Wi
open Go Go.RowKit Go.Aw Go.Aw.Cart Go.Aw.Tree Go.Proofs.YtcbhmngagibhmaaGreat.Ca Go.Proofs.YtcbhmngagibhmaaGreat.Rg
set_option linter.unusedVariables false
set_option linter.unusedSimpArgs false
set_option maxRecDepth 8000
set_option maxHeartbeats 4000000
open I4
theorem refNumO (n:Int) (h:0≤n∧n < 18446744073709551616):∀ c k:Nat,OC Tryz.prog 88 [.p (.k .u64 n)] [] [(c,k)] True (.o (.osl c (k+1) 1 0 (numI n).length)) [(c,(k+2,some (.buf 5 1 ((numI n).map bR))))]:=fun c k=>⟨fun _=>by
 obtain ⟨m,hm⟩:∃ m:Nat,n=m:=⟨n.toNat,by omega⟩
 rw [hm,numI_nat]
 exact (refNum_o m (by omega)).fresh1 c k⟩
theorem refPut_w (o:Op3) (h:mayF o=true):PCall Tryz.prog 119 [opV o] (.p (.sl 1 ((opB o).map bR) false)):=by
 refine pcall_of Tryz.func119 rfl (fun w0 F S0 M0=>?_)
 obtain ⟨⟨a1,a2⟩,⟨b1,b2⟩,c1,c2⟩:=may_in h
 have w1:IntKind.u64.wrap o.1=o.1:=u64_in (by omega)
 have w2:IntKind.u64.wrap o.2.1=o.2.1:=u64_in (by omega)
 have d1:decide (o.1 < 0)=false:=decide_eq_false (by omega)
 have d2:decide (o.2.1 < 0)=false:=decide_eq_false (by omega)
 haveI i1:=refNumO o.1 (by omega)
 haveI i2:=refNumI o.2.1 (by omega)
 haveI i3:PC Tryz.prog 166 [.p (.i o.2.2)] True (.p (.sl 1 ((intB o.2.2).map bR) false)):=⟨fun _=>refInt_w o.2.2 (by omega)⟩
 have n1:=numI_len o.1
 have n2:=numI_len o.2.1
 have n3:=intB_len o.2.2
 rw [show opB o=numI o.1++numI o.2.1++intB o.2.2 by unfold opB;rw [List.append_assoc]]
 repeat' (first|refine jx5 ?_|refine jy0 ?_ ?_|exact spF|refine spQ fun hq hq'=>?_|refine spN fun hn=>?_|fail)
 refine aws_draws [] mixed (by kernel_rfl) ?_
 repeat' (first|refine jx7 ?_|refine jy1 ?_ ?_|exact spF|refine spQ fun hq hq'=>?_|fail)
 repeat' (first|refine jx5 ?_|refine jy0 ?_ ?_|exact spF|refine spQ fun hq hq'=>?_|refine spN fun hn=>?_|fail)
 refine aws_draws [(2,15),(6,15),(10,15)] mixed (by kernel_rfl) ?_
 repeat' (first|refine jx7 ?_|refine jy1 ?_ ?_|exact spF|refine spQ fun hq hq'=>?_|fail)
 as_aux_lemma=>
  repeat' (first|refine jx5 ?_|refine jy0 ?_ ?_|exact spF|refine spQ fun hq hq'=>?_|refine spN fun hn=>?_|fail)
  exact rt1 rfl rfl (.one (finC_map rfl rfl rfl rfl)) rfl
theorem refWrite30_g (x:Inp) (M:List AC) [pM:PureL M] (mB:List Nat) (hM:M.length=40) (kx:okB x.key) (kl:x.key.length≤100) (hdr:x.draw < 18446744073709551616) (ho:okI x=true)
  (cW:x.kind=5→PCall Tryz.prog 20 [.a M] (.p (.sl 1 (mB.map bR) false))) (lW:x.kind=5→mB.length≤900000) :
  PCall Tryz.prog 44 [.a (iC x M)] (.p (.sl 1 ((numI x.kind++(if x.kind=1 then numI x.id++(textB x.key++opB x.op) else if x.kind=2 then numI x.id++textB x.key else if x.kind=4 then numB x.draw else if x.kind=5 then textB mB else [])).map bR) false)):=by
 refine pcall_of Tryz.func44 rfl (fun w0 F S0 M0=>?_)
 obtain ⟨k1,k8⟩:=kind_in ho
 have kl6:x.key.length≤1000000:=by omega
 unfold okI at ho
 have w1:IntKind.u64.wrap x.kind=x.kind:=u64_in (by omega)
 haveI i1:=refNumO x.kind (by omega)
 have n1:=numI_len x.kind
 have n2:=numI_len x.id
 have n3:=textB_le x.key
 have n4:=opB_le x.op
 have n5:=numB_le x.draw
 have n6:=textB_le mB
 haveI iT:PC Tryz.prog 118 [.p (.sl 1 (x.key.map bR) false)] True (.p (.sl 1 ((textB x.key).map bR) false)):=⟨fun _=>refText_w x.key (by omega)⟩
 by_cases q1:x.kind=1
 ·have d1:decide (x.kind=1)=true:=decide_eq_true q1
  rw [if_pos q1] at ho ⊢
  rw [Bool.and_eq_true] at ho
  obtain ⟨⟨a1,a2⟩ , - , -⟩:=cli_in ho.1
  have w2:IntKind.u64.wrap x.id=x.id:=u64_in (by omega)
  haveI i2:=refNumI x.id (by omega)
  haveI i3:PC Tryz.prog 119 [opV x.op] True (.p (.sl 1 ((opB x.op).map bR) false)):=⟨fun _=>refPut_w x.op ho.2⟩
  rw [show numI x.kind++(numI x.id++(textB x.key++opB x.op))=numI x.kind++numI x.id++textB x.key++opB x.op by simp only [List.append_assoc]]
  clear ho cW lW
  repeat' (first|refine jx24 ?_|refine jy0 ?_ ?_|exact spF|refine spQ fun hq hq'=>?_|refine spN fun hn=>?_|fail)
  refine aws_draws [(5,7),(10,7)] mixed (by kernel_rfl) ?_
  repeat' (first|refine jx25 ?_|refine jy1 ?_ ?_|exact spF|refine spQ fun hq hq'=>?_|fail)
  as_aux_lemma=>
   repeat' (first|refine jx24 ?_|refine jy0 ?_ ?_|exact spF|refine spQ fun hq hq'=>?_|refine spN fun hn=>?_|fail)
   exact rt1 rfl rfl (.one (finC_map rfl rfl rfl rfl)) rfl
 have d1:decide (x.kind=1)=false:=decide_eq_false q1
 rw [if_neg q1] at ho ⊢
 by_cases q2:x.kind=2
 ·have d2:decide (x.kind=2)=true:=decide_eq_true q2
  rw [if_pos q2] at ho ⊢
  obtain ⟨⟨a1,a2⟩ , - , -⟩:=cli_in ho
  have w2:IntKind.u64.wrap x.id=x.id:=u64_in (by omega)
  haveI i2:=refNumI x.id (by omega)
  rw [show numI x.kind++(numI x.id++textB x.key)=numI x.kind++numI x.id++textB x.key by simp only [List.append_assoc]]
  clear ho cW lW
  repeat' (first|refine jx24 ?_|refine jy0 ?_ ?_|exact spF|refine spQ fun hq hq'=>?_|refine spN fun hn=>?_|fail)
  refine aws_draws [(5,7),(10,7)] mixed (by kernel_rfl) ?_
  repeat' (first|refine jx25 ?_|refine jy1 ?_ ?_|exact spF|refine spQ fun hq hq'=>?_|fail)
  as_aux_lemma=>
   repeat' (first|refine jx24 ?_|refine jy0 ?_ ?_|exact spF|refine spQ fun hq hq'=>?_|refine spN fun hn=>?_|fail)
   exact rt1 rfl rfl (.one (finC_map rfl rfl rfl rfl)) rfl
 have d2:decide (x.kind=2)=false:=decide_eq_false q2
 rw [if_neg q2] at ho ⊢
 by_cases q4:x.kind=4
 ·have d4:decide (x.kind=4)=true:=decide_eq_true q4
  rw [if_pos q4]
  haveI i2:PC Tryz.prog 88 [.p (.k .u64 (x.draw:Int))] True (.p (.sl 1 ((numB x.draw).map bR) false)):=⟨fun _=>refNum_w x.draw hdr⟩
  clear ho cW lW
  as_aux_lemma=>
   repeat' (first|refine jx24 ?_|refine jy0 ?_ ?_|exact spF|refine spQ fun hq hq'=>?_|refine spN fun hn=>?_|fail)
   exact rt1 rfl rfl (.one (finC_map rfl rfl rfl rfl)) rfl
 have d4:decide (x.kind=4)=false:=decide_eq_false q4
 rw [if_neg q4]
 by_cases q5:x.kind=5
 ·have d5:decide (x.kind=5)=true:=decide_eq_true q5
  rw [if_pos q5]
  have l5:=lW q5
  haveI i2:PC Tryz.prog 20 [.a M] True (.p (.sl 1 (mB.map bR) false)):=⟨fun _=>cW q5⟩
  haveI i3:PC Tryz.prog 118 [.p (.sl 1 (mB.map bR) false)] True (.p (.sl 1 ((textB mB).map bR) false)):=⟨fun _=>refText_w mB (by omega)⟩
  clear ho cW lW
  as_aux_lemma=>
   repeat' (first|refine jx24 ?_|refine jy0 ?_ ?_|exact spF|refine spQ fun hq hq'=>?_|refine spN fun hn=>?_|fail)
   exact rt1 rfl rfl (.one (finC_map rfl rfl rfl rfl)) rfl
 have d5:decide (x.kind=5)=false:=decide_eq_false q5
 rw [if_neg q5,List.append_nil]
 clear ho cW lW
 as_aux_lemma=>
  repeat' (first|refine jx24 ?_|refine jy0 ?_ ?_|exact spF|refine spQ fun hq hq'=>?_|refine spN fun hn=>?_|fail)
  exact rt1 rfl rfl (.one (finC_map rfl rfl rfl rfl)) rfl
theorem refWrite30_w (x:Inp) (h:IIn x) (hr:rightI x=true):PCall Tryz.prog 44 [iV x] (.p (.sl 1 ((inpB x).map bR) false)):=by
 have ho:=(own_of hr).1
 have h5:x.kind=5→rightM x.msg=true:=fun q=>by
  have ho:=ho
  unfold okI at ho
  rw [if_neg (by omega),if_neg (by omega),if_pos q] at ho
  exact ho
 exact refWrite30_g x (mL x.msg) (msgB x.msg) (mL_len h.msg.d32) h.key h.kl h.draw ho (fun q=>refWrite26_w x.msg h.msg (h5 q)) (fun q=>msgB_few h.msg (h5 q) h.gr)
def greatI (x:Inp):Bool:=decide (100 < (x.key.length:Int))||greatM x.msg
theorem igreat_g (x:Inp) (M:List AC) [pM:PureL M] (hM:M.length=40) (kl:x.key.length≤9223372036854775807) (G:Bool) (c:PCall Tryz.prog 9 [.a M] (.p (.b G))):PCall Tryz.prog 34 [.a (iC x M)] (.p (.b (decide (100 < (x.key.length:Int))||G))):=by
 refine pcall_of Tryz.func34 rfl (fun w0 F S0 M0=>?_)
 haveI:PC Tryz.prog 9 [.a M] True (.p (.b G)):=⟨fun _=>c⟩
 cases d1:decide (100 < (x.key.length:Int)) with
 | true=>
  rw [Bool.true_or]
  as_aux_lemma=>
   repeat' (first|refine jx24 ?_|refine jy0 ?_ ?_|exact spF|refine spQ fun hq hq'=>?_|refine spN fun hn=>?_|fail)
   exact rt1 rfl rfl finS_p rfl
 | false=>
  rw [Bool.false_or]
  as_aux_lemma=>
   repeat' (first|refine jx24 ?_|refine jy0 ?_ ?_|exact spF|refine spQ fun hq hq'=>?_|refine spN fun hn=>?_|fail)
   exact rt1 rfl rfl finS_p rfl
structure IGo (x:Inp):Prop where
 key:okB x.key
 kl:x.key.length≤9223372036854775807
 draw:x.draw < 18446744073709551616
 msg:MGo x.msg
theorem igreat_w (x:Inp) (h:IGo x):PCall Tryz.prog 34 [iV x] (.p (.b (greatI x))):=
 igreat_g x _ (mL_len h.msg.d32) h.kl _ (great26_w x.msg h.msg)
theorem iin_of {x:Inp} (h:IGo x) (hg:greatI x=false):IIn x:=by
 unfold greatI at hg
 rw [Bool.or_eq_false_iff,decide_eq_false_iff_not] at hg
 obtain ⟨h1,h2⟩:=hg
 obtain ⟨m1 , - , -,m4⟩:=min_of h.msg h2
 exact ⟨h.key,by omega,h.draw,m1,m4⟩
def aI3:Inp:=⟨3,0,[],(0,0,0),0,zeroM⟩
def aI4:Inp:=⟨3,1,[],(0,0,0),0,zeroM⟩
def aI1:Inp:=⟨1,5,[97],(1,2,3),0,zeroM⟩
theorem zeroM_gr:greatL zeroM.kds=false:=decide_eq_false fun ⟨i,h,_⟩=>absurd h (Nat.not_lt_zero _)
theorem ok97':okB [97]:=fun c hc=>by simp at hc;omega
theorem aI3_in:IIn aI3:=⟨nil_ok,by decide,by decide,zeroM_in,zeroM_gr⟩
theorem aI4_in:IIn aI4:=⟨nil_ok,by decide,by decide,zeroM_in,zeroM_gr⟩
theorem aI1_in:IIn aI1:=⟨ok97',by decide,by decide,zeroM_in,zeroM_gr⟩
theorem aI3_r:rightI aI3=true:=by
 unfold rightI
 rw [show ownI aI3=aI3 from rfl,sameI_refl]
 rfl
theorem aI4_r:rightI aI4=false:=by
 unfold rightI
 have:sameI aI4 (ownI aI4)=false:=rfl
 rw [this,Bool.and_false]
theorem key97:keyR [97]=true:=by decide
theorem aI1_r:rightI aI1=true:=by
 unfold rightI
 rw [show ownI aI1=aI1 from rfl,sameI_refl]
 have:okI aI1=true:=by
  show (cliF 5 [97]&&mayF (1,2,3))=true
  unfold cliF
  rw [key97]
  decide
 rw [this];rfl
theorem aI3_b:inpB aI3=[1,3]:=by decide
theorem readI_nil:readI []=(zeroI,3):=by
 unfold readI
 rw [if_pos]
 left
 decide
theorem iwrite_g (x:Inp) (M:List AC) [pM:PureL M] (mB:List Nat) (hM:M.length=40) (kx:okB x.key) (kl:x.key.length≤100) (hdr:x.draw < 18446744073709551616) (ho:okI x=true) (cR:PCall Tryz.prog 39 [.a (iC x M)] (.p (.b true)))
  (cW:x.kind=5→PCall Tryz.prog 12 [.a M] (.tup [.one (.p (.sl 1 (mB.map bR) false)),.one (.p (.i 0))])) (lW:x.kind=5→mB.length≤900000) :
  PCall Tryz.prog 36 [.a (iC x M)] (.tup [.one (.p (.sl 1 ((numI x.kind++(if x.kind=1 then numI x.id++(textB x.key++opB x.op) else if x.kind=2 then numI x.id++textB x.key else if x.kind=4 then numB x.draw else if x.kind=5 then textB mB else [])).map bR) false)),.one (.p (.i 0))]):=by
 refine pcall_of Tryz.func36 rfl (fun w0 F S0 M0=>?_)
 obtain ⟨k1,k8⟩:=kind_in ho
 have kl6:x.key.length≤1000000:=by omega
 unfold okI at ho
 haveI i0:PC Tryz.prog 39 [.a (iC x M)] True (.p (.b true)):=⟨fun _=>cR⟩
 have d0:(!true)=false:=rfl
 have n1:=numI_len x.kind
 have n2:=numI_len x.id
 have n3:=textB_le x.key
 have n4:=opB_le x.op
 have n5:=numB_le x.draw
 have n6:=textB_le mB
 have g1:(([]:List Nat)++numI x.kind).length≤9:=by rw [List.length_append];simpa using n1
 have kk:0≤x.kind∧x.kind < 18446744073709551616:=by omega
 clear cR n1
 by_cases q1:x.kind=1
 ·have d1:decide (x.kind=1)=true:=decide_eq_true q1
  rw [if_pos q1] at ho ⊢
  rw [Bool.and_eq_true] at ho
  obtain ⟨⟨a1,a2⟩ , - , -⟩:=cli_in ho.1
  have ki:0≤x.id∧x.id < 18446744073709551616:=by omega
  have hm:=ho.2
  have g2:(([]:List Nat)++numI x.kind++numI x.id).length≤18:=by rw [List.length_append];omega
  have g3:(([]:List Nat)++numI x.kind++numI x.id++textB x.key).length≤200:=by rw [List.length_append];omega
  have g4:(([]:List Nat)++numI x.kind++numI x.id++textB x.key++opB x.op).length≤300:=by rw [List.length_append];omega
  rw [show numI x.kind++(numI x.id++(textB x.key++opB x.op))=(([]:List Nat)++numI x.kind++numI x.id++textB x.key++opB x.op) by simp only [List.append_assoc,List.nil_append]]
  haveI jP:∀ c g n:Nat,OC Tryz.prog 101 [.o (.ptr c g 0),opV x.op] [(c,(n,some (.abs (wrA (([]:List Nat)++numI x.kind++numI x.id++textB x.key)))))] [] (n=g+1) (.tup []) [(c,(n,some (.abs (wrA (([]:List Nat)++numI x.kind++numI x.id++textB x.key++opB x.op)))))]:=fun c g n=>⟨fun h=>by obtain rfl:=h;exact (eput_o g _ x.op hm (by omega)).one c⟩
  clear ho hm cW lW
  repeat' (first|refine jx24 ?_|fail)
  refine rn_says (says_wr (p:=11) rfl) rfl ?_
  as_aux_lemma=>
   repeat' (first|refine jx24 ?_|fail)
   exact rt2 rfl rfl finS_p rfl finS_p rfl
 have d1:decide (x.kind=1)=false:=decide_eq_false q1
 rw [if_neg q1] at ho ⊢
 by_cases q2:x.kind=2
 ·have d2:decide (x.kind=2)=true:=decide_eq_true q2
  rw [if_pos q2] at ho ⊢
  obtain ⟨⟨a1,a2⟩ , - , -⟩:=cli_in ho
  have ki:0≤x.id∧x.id < 18446744073709551616:=by omega
  have g2:(([]:List Nat)++numI x.kind++numI x.id).length≤18:=by rw [List.length_append];omega
  have g3:(([]:List Nat)++numI x.kind++numI x.id++textB x.key).length≤200:=by rw [List.length_append];omega
  rw [show numI x.kind++(numI x.id++textB x.key)=(([]:List Nat)++numI x.kind++numI x.id++textB x.key) by simp only [List.append_assoc,List.nil_append]]
  clear ho cW lW
  repeat' (first|refine jx24 ?_|fail)
  refine rn_says (says_wr (p:=11) rfl) rfl ?_
  as_aux_lemma=>
   repeat' (first|refine jx24 ?_|fail)
   exact rt2 rfl rfl finS_p rfl finS_p rfl
 have d2:decide (x.kind=2)=false:=decide_eq_false q2
 rw [if_neg q2] at ho ⊢
 by_cases q4:x.kind=4
 ·have d4:decide (x.kind=4)=true:=decide_eq_true q4
  rw [if_pos q4]
  have g2:(([]:List Nat)++numI x.kind++numB x.draw).length≤18:=by rw [List.length_append];omega
  rw [show numI x.kind++numB x.draw=(([]:List Nat)++numI x.kind++numB x.draw) by simp only [List.nil_append]]
  clear ho cW lW
  repeat' (first|refine jx24 ?_|fail)
  refine rn_says (says_wr (p:=11) rfl) rfl ?_
  as_aux_lemma=>
   repeat' (first|refine jx24 ?_|fail)
   exact rt2 rfl rfl finS_p rfl finS_p rfl
 have d4:decide (x.kind=4)=false:=decide_eq_false q4
 rw [if_neg q4]
 by_cases q5:x.kind=5
 ·have d5:decide (x.kind=5)=true:=decide_eq_true q5
  rw [if_pos q5]
  have l5:=lW q5
  have l6:mB.length≤1000000:=by omega
  haveI i1:PC Tryz.prog 12 [.a M] True (.tup [.one (.p (.sl 1 (mB.map bR) false)),.one (.p (.i 0))]):=⟨fun _=>cW q5⟩
  have g2:(([]:List Nat)++numI x.kind++textB mB).length≤1000000:=by rw [List.length_append];omega
  rw [show numI x.kind++textB mB=(([]:List Nat)++numI x.kind++textB mB) by simp only [List.nil_append]]
  clear ho cW lW
  repeat' (first|refine jx24 ?_|fail)
  refine rn_says (says_wr (p:=11) rfl) rfl ?_
  as_aux_lemma=>
   repeat' (first|refine jx24 ?_|fail)
   exact rt2 rfl rfl finS_p rfl finS_p rfl
 have d5:decide (x.kind=5)=false:=decide_eq_false q5
 rw [if_neg q5]
 rw [show numI x.kind++([]:List Nat)=([]:List Nat)++numI x.kind by simp only [List.nil_append,List.append_nil]]
 clear ho cW lW
 repeat' (first|refine jx24 ?_|fail)
 refine rn_says (says_wr (p:=11) rfl) rfl ?_
 as_aux_lemma=>
  repeat' (first|refine jx24 ?_|fail)
  exact rt2 rfl rfl finS_p rfl finS_p rfl
theorem iwrite_ok (x:Inp) (h:IIn x) (hr:rightI x=true):PCall Tryz.prog 36 [iV x] (.tup [.one (.p (.sl 1 ((inpB x).map bR) false)),.one (.p (.i 0))]):=by
 have ho:=(own_of hr).1
 have h5:x.kind=5→rightM x.msg=true:=fun q=>by
  have ho:=ho
  unfold okI at ho
  rw [if_neg (by omega),if_neg (by omega),if_pos q] at ho
  exact ho
 have cR:=iright_w x h.msg h.key (by have:=h.kl;omega)
 rw [hr] at cR
 exact iwrite_g x (mL x.msg) (msgB x.msg) (mL_len h.msg.d32) h.key h.kl h.draw ho cR (fun q=>mwrite_ok x.msg h.msg (h5 q)) (fun q=>msgB_few h.msg (h5 q) h.gr)
theorem iwrite_n (x:Inp) (M:List AC) [pM:PureL M] (hM:M.length=40) (cR:PCall Tryz.prog 39 [.a (iC x M)] (.p (.b false))):PCall Tryz.prog 36 [.a (iC x M)] (.tup [.one (.p (.sl 1 (([]:List Nat).map bR) false)),.one (.p (.i 3))]):=by
 refine pcall_of Tryz.func36 rfl (fun w0 F S0 M0=>?_)
 haveI i0:PC Tryz.prog 39 [.a (iC x M)] True (.p (.b false)):=⟨fun _=>cR⟩
 have d0:(!false)=true:=rfl
 as_aux_lemma=>
  repeat' (first|refine jx24 ?_|refine jy0 ?_ ?_|exact spF|refine spQ fun hq hq'=>?_|refine spN fun hn=>?_|fail)
  exact rt2 rfl rfl (.one .nil) rfl finS_p rfl
theorem iwrite_no (x:Inp) (h:MIn x.msg) (kx:okB x.key) (kl:x.key.length≤1000000) (hr:rightI x=false):PCall Tryz.prog 36 [iV x] (.tup [.one (.p (.sl 1 (([]:List Nat).map bR) false)),.one (.p (.i 3))]):=by
 have cR:=iright_w x h kx kl
 rw [hr] at cR
 exact iwrite_n x (mL x.msg) (mL_len h.d32) cR
end Go.Proofs.YtcbhmngagibhmaaGreat.Wi
namespace Go.Proofs.YtcbhmngagibhmaaGreat.Wi
open Go Go.RowKit Go.Aw Go.Aw.Cart Go.Aw.Tree Go.Proofs.YtcbhmngagibhmaaGreat.Ca Go.Proofs.YtcbhmngagibhmaaGreat.Rg
set_option linter.unusedVariables false
set_option linter.unusedSimpArgs false
set_option maxRecDepth 8000
set_option maxHeartbeats 4000000
theorem lop_buildI2 {C:Ctx} {o:Oper} {σ:St} {T:TypeId} {x0 x1:Operand} {p0 p1:PVal} {fs:List (Nat × Nat)} {z:List Value} (ho:o.op=.build T #[(0,x0),(1,x1)]) (hF:TF C.P T fs) (hz:TZ C.P T z) (g0:σ.look x0=.p p0) (g1:σ.look x1=.p p1) (h1:z.all (·.oneCell')=true)
  (hb:bfill (fun i=>fs[i]?) (z.map fun v=>.p (.v v)) [(0,[.p p0]),(1,[.p p1])]=some (.p p0::.p p1::.p (.v (.string ByteArray.empty))::.p (.i 0)::.p (.i 0)::.p (.i 0)::.p (.k .u64 0)::zMC)) (hd:dOk C o.dst=true) :
  LOp C o σ ⟨.a (.p p0::.p p1::.p (.v (.string ByteArray.empty))::.p (.i 0)::.p (.i 0)::.p (.i 0)::.p (.k .u64 0)::zMC),[]⟩ (fun _=>false):=lop_build2 ho hF hz g0 g1 h1 hb hd
theorem lop_buildI4 {C:Ctx} {o:Oper} {σ:St} {T:TypeId} {x0 x1 x2 x3:Operand} {p0 p1 p2:PVal} {a b c:AC} {fs:List (Nat × Nat)} {z:List Value} (ho:o.op=.build T #[(0,x0),(1,x1),(2,x2),(3,x3)]) (hF:TF C.P T fs) (hz:TZ C.P T z) (g0:σ.look x0=.p p0) (g1:σ.look x1=.p p1) (g2:σ.look x2=.p p2) (g3:σ.look x3=.a [a,b,c]) (h1:z.all (·.oneCell')=true)
  (hb:bfill (fun i=>fs[i]?) (z.map fun v=>.p (.v v)) [(0,[.p p0]),(1,[.p p1]),(2,[.p p2]),(3,[a,b,c])]=some (.p p0::.p p1::.p p2::a::b::c::.p (.k .u64 0)::zMC)) (hd:dOk C o.dst=true) :
  LOp C o σ ⟨.a (.p p0::.p p1::.p p2::a::b::c::.p (.k .u64 0)::zMC),[]⟩ (fun _=>false):=lop_build4 ho hF hz g0 g1 g2 g3 h1 hb hd
namespace I7
theorem lopC {C:Ctx} {o:Oper} {σ:St} {e:Eff} {ro:Nat→Bool} (h:LOp C o σ e ro:=by
  first|(apply lop_buildI4;(focus rfl);(focus exact inferInstance);(focus exact inferInstance);(focus rfl);(focus rfl);(focus rfl);(focus rfl);(focus decide);(focus rfl);(focus rfl))|(apply lop_buildI2;(focus rfl);(focus exact inferInstance);(focus exact inferInstance);(focus rfl);(focus rfl);(focus decide);(focus rfl);(focus rfl))|exact I4.lopC|(apply lop_eqls;(focus rfl);(focus exact inferInstance);(focus rfl);(focus rfl);(focus rfl))|fail):LOp C o σ e ro:=h
section steps
variable {C:Ctx} {ops:Array Oper} {o:Oper} {rest:List Oper} {K:St→Prop} {σ:St} {e:Eff} {ro:Nat→Bool} {W:List (Nat × Nat)} {i:Nat}
theorem rnC {d:Nat} (hg:Guard ops σ o true:=by first|exact gd_n rfl rfl|exact gd_t rfl rfl rfl rfl|exact gd_t rfl rfl rfl (by assumption)) (hd:o.dst=some d:=by rfl) (h:LOp C o σ e ro:=by exact lopC) (hk:RunN C ops rest K (e.app (some d) σ)):RunN C ops (o::rest) K σ:=rn_any hg hd h hk
theorem rkC {d:Nat} (hg:Guard ops σ o true:=by first|exact gd_n rfl rfl|exact gd_t rfl rfl rfl rfl|exact gd_t rfl rfl rfl (by assumption)) (hd':o.dst=some d:=by rfl) (hd:dOk C o.dst=true:=by rfl) (h:LOp C o σ e ro:=by exact lopC) (hro:∀ x,ro x=true→okObj ops W i x=true:=by first|exact fun _=>ro_none|exact ro_one rfl|exact ro_k1 rfl|exact ro_one (by kernel_rfl)|exact ro_k1 (by kernel_rfl)|exact ro_kIn (by decide)) (hob:∀ p∈e.obj,(i,p.1)∈W:=by first|exact ob_none|exact ob_one (by decide)|decide) (hk:RunK C ops W (i+1) rest K (e.app (some d) σ)):RunK C ops W i (o::rest) K σ:=rk_wr hg hd' hd h hro hob hk
end steps
end I7
open I7
theorem alive30_w:PCall Tryz.prog 35 [] (.p (.b true)):=by
 refine pcall_of Tryz.func35 rfl (fun w0 F S0 M0=>?_)
 have hz40:=zMC_len
 have k1:PCall Tryz.prog 36 [.a (.p (.i 3)::.p (.i 0)::.p (.v (.string ByteArray.empty))::.p (.i 0)::.p (.i 0)::.p (.i 0)::.p (.k .u64 0)::zMC)] (.tup [.one (.p (.sl 1 (([1,3]:List Nat).map bR) false)),.one (.p (.i 0))]):=by
  have h:=(iwrite_ok aI3 aI3_in aI3_r).ent (.cons (me_zero.ent aI3) .nil)
  rw [aI3_b] at h
  exact h
 have k4:PCall Tryz.prog 36 [.a (.p (.i 3)::.p (.i 1)::.p (.v (.string ByteArray.empty))::.p (.i 0)::.p (.i 0)::.p (.i 0)::.p (.k .u64 0)::zMC)] (.tup [.one (.p (.sl 1 (([]:List Nat).map bR) false)),.one (.p (.i 3))]):=
  (iwrite_no aI4 aI4_in.msg aI4_in.key (by decide) aI4_r).ent (.cons (me_zero.ent aI4) .nil)
 obtain ⟨B,hB⟩:∃ B,B=inpB aI1:=⟨_,rfl⟩
 have k2:PCall Tryz.prog 36 [.a (.p (.i 1)::.p (.i 5)::.p (.v (.string { data:=#[97] }))::.p (.i 1)::.p (.i 2)::.p (.i 3)::.p (.k .u64 0)::zMC)] (.tup [.one (.p (.sl 1 (B.map bR) false)),.one (.p (.i 0))]):=by
  rw [hB]
  exact (iwrite_ok aI1 aI1_in aI1_r).ent (.cons (me_zero.ent aI1) .nil)
 have k3:=iread_w B (by rw [hB];exact inpB_ok aI1_in) (by rw [hB];have:=inpB_le aI1_in aI1_r;omega)
 rw [hB,iread_back aI1_in aI1_r,← hB] at k3
 have k5:PCall Tryz.prog 37 [.p (.v (.slice none 0 0))] (.tup [.agg (iC zeroI (mL zeroM)),.one (.p (.i 3))]):=by
  have h:=iread_w [] nil_ok (by decide)
  rw [readI_nil] at h
  exact h.ent (.cons Ent1.nil .nil)
 have k6:PCall Tryz.prog 42 [.a (.p (.i 1)::.p (.i 5)::.p (.v (.string { data:=#[97] }))::.p (.i 1)::.p (.i 2)::.p (.i 3)::.p (.k .u64 0)::zMC),.a (iC aI1 (mL zeroM))] (.p (.b true)):=by
  have h:=isame_w aI1 aI1 aI1_in.msg aI1_in.msg aI1_in.key aI1_in.key
  rw [sameI_refl] at h
  exact h.ent (.cons (me_zero.ent aI1) (.cons Ent1.refl .nil))
 have k7:PCall Tryz.prog 39 [.a (.p (.i 1)::.p (.i 5)::.p (.v (.string { data:=#[97] }))::.p (.i 1)::.p (.i 2)::.p (.i 3)::.p (.k .u64 0)::zMC)] (.p (.b true)):=by
  have h:=iright_w aI1 aI1_in.msg aI1_in.key (by decide)
  rw [aI1_r] at h
  exact h.ent (.cons (me_zero.ent aI1) .nil)
 have k3':PCall Tryz.prog 37 [.p (.sl 1 (B.map bR) false)] (.tup [.agg (iC aI1 (mL zeroM)),.one (.p (.i 0))]):=k3
 clear k3 hB
 have hZ:(mL zeroM).length=40:=mL_len rfl
 have pZ:PureL (mL zeroM):=inferInstance
 revert k3' k5 k6 hZ pZ
 generalize mL zeroM=Z
 intro k3 k5 k6 hZ pZ
 haveI i1:PC _ _ _ True _:=⟨fun _=>k1⟩
 haveI i2:PC _ _ _ True _:=⟨fun _=>k2⟩
 haveI i3:PC _ _ _ True _:=⟨fun _=>k3⟩
 haveI i4:PC _ _ _ True _:=⟨fun _=>k4⟩
 haveI i5:PC _ _ _ True _:=⟨fun _=>k5⟩
 haveI i6:PC _ _ _ True _:=⟨fun _=>k6⟩
 haveI i7:PC _ _ _ True _:=⟨fun _=>k7⟩
 clear k1 k2 k3 k4 k5 k6 k7
 as_aux_lemma=>
  repeat' (first|refine jx24 ?_|refine jy0 ?_ ?_|exact spF|refine spQ fun hq hq'=>?_|refine spN fun hn=>?_|fail)
  exact rt1 rfl rfl finS_p rfl
end Go.Proofs.YtcbhmngagibhmaaGreat.Wi
namespace Go.Proofs.YtcbhmngagibhmaaGreat.Wi
open Go Go.RowKit Go.Aw Go.Aw.Cart Go.Aw.Tree Go.Proofs.YtcbhmngagibhmaaGreat.Ca Go.Proofs.YtcbhmngagibhmaaGreat.Rg
set_option linter.unusedVariables false
set_option linter.unusedSimpArgs false
set_option maxRecDepth 8000
set_option maxHeartbeats 4000000
namespace I8
end I8
open I8
end Go.Proofs.YtcbhmngagibhmaaGreat.Wi
namespace Go.Proofs.YtcbhmngagibhmaaGreat.Wi
open Go Go.RowKit Go.Aw Go.Aw.Cart Go.Aw.Tree Go.Proofs.YtcbhmngagibhmaaGreat.Ca Go.Proofs.YtcbhmngagibhmaaGreat.Rg
set_option linter.unusedVariables false
set_option maxRecDepth 8000
theorem rd_op3:Reads Tryz.prog 78 Op3 (fun o=>opR o) (fun _=>True):=
 (reads_struct (inferInstance:TI Tryz.prog 78 _ _ _)
  (readsFs_cons (inferInstance:TI Tryz.prog 3 _ _ _) Ca.rd_int (readsFs_cons (inferInstance:TI Tryz.prog 3 _ _ _) Ca.rd_int (readsFs_cons (inferInstance:TI Tryz.prog 3 _ _ _) Ca.rd_int (readsFs_nil rfl))))).imp
  (fun x=>(x.1,x.2.1,x.2.2.1)) (fun x=>rfl) (fun x h=>trivial)
theorem rd_drw:Reads Tryz.prog 79 Nat (fun n=>[PVal.k .u64 (n:Int)]) (fun n=>n < 18446744073709551616):=
 (Ca.rd_u64:Reads Tryz.prog 79 Int _ _).imp' Int.toNat (fun n h=>by rw [Int.toNat_of_nonneg h.1]) (fun n h=>by omega)
def iRow (x:Inp):List PVal:=[PVal.i x.kind,PVal.i x.id,PVal.v (.string (strOf x.key))]++(opR x.op++([PVal.k .u64 (x.draw:Int)]++mRow x.msg))
theorem rd_inp:Reads Tryz.prog 81 Inp iRow IGo:=
 (reads_struct (inferInstance:TI Tryz.prog 81 _ _ _)
  (readsFs_cons (inferInstance:TI Tryz.prog 3 _ _ _) Ca.rd_int (readsFs_cons (inferInstance:TI Tryz.prog 3 _ _ _) Ca.rd_int (readsFs_cons (inferInstance:TI Tryz.prog 9 _ _ _) rd_keyP
  (readsFs_cons (inferInstance:TI Tryz.prog 78 _ _ _) rd_op3 (readsFs_cons (inferInstance:TI Tryz.prog 79 _ _ _) rd_drw (readsFs_cons (inferInstance:TI Tryz.prog 28 _ _ _) rd_msg (readsFs_nil rfl)))))))).imp'
  (fun x=>⟨x.1,x.2.1,x.2.2.1,x.2.2.2.1,x.2.2.2.2.1,x.2.2.2.2.2.1⟩) (fun x _=>by unfold iRow;simp only [List.append_nil,List.cons_append,List.nil_append]) (fun x h=>by
   obtain ⟨_,_,h3,_,h5,h6,_⟩:=h
   exact ⟨h3.1,h3.2,h5,h6⟩)
theorem i_arg (x:Inp):argAV true (iRow x)=iV x:=by
 have h:=m_arg x.msg
 have h2:(mRow x.msg).map AC.p=mL x.msg:=by
  have:AV.a ((mRow x.msg).map .p)=AV.a (mL x.msg):=h
  injection this with k
  injection k
 show AV.a ((iRow x).map .p)=AV.a (iC x (mL x.msg))
 unfold iRow
 rw [List.map_append,List.map_append,List.map_append,h2]
 rfl
end Go.Proofs.YtcbhmngagibhmaaGreat.Wi
