/- outbox: replies split by a mark; what is told; marks that are shifted -/
import Derived.Test.YtkgploeegbmofaaGreatOVA31
namespace Go.Proofs.YtkgploeegbmofaaGreat.Wi
open Go Go.RowKit Go.Aw Go.Aw.Cart Go.Aw.Tree Go.Proofs.YtkgploeegbmofaaGreat.Ca Go.Proofs.YtkgploeegbmofaaGreat.Rg
set_option linter.unusedVariables false
set_option linter.unusedSimpArgs false
set_option maxRecDepth 8000
set_option maxHeartbeats 4000000
def goneA (l:List Ha) (s:Int):List Ans:=(l.filter fun h=>decide (h.2≤s)).map (·.1)
def waitA (l:List Ha) (s:Int):List Ha:=l.filter fun h=>!decide (h.2≤s)
theorem goneA_take {l:List Ha} {i:Nat} {s:Int} (h:i < l.length):goneA (l.take (i+1)) s=goneA (l.take i) s++if (l.getD i default).2≤s then [(l.getD i default).1] else []:=by
 unfold goneA
 rw [List.take_succ_eq_append_getElem h,List.filter_append,List.map_append,List.getD_eq_getElem?_getD,List.getElem?_eq_getElem h]
 by_cases q:(l[i]).2≤s<;>simp [q]
theorem waitA_take {l:List Ha} {i:Nat} {s:Int} (h:i < l.length):waitA (l.take (i+1)) s=waitA (l.take i) s++if (l.getD i default).2≤s then [] else [l.getD i default]:=by
 unfold waitA
 rw [List.take_succ_eq_append_getElem h,List.filter_append,List.getD_eq_getElem?_getD,List.getElem?_eq_getElem h]
 by_cases q:(l[i]).2≤s<;>simp [q]
namespace O4
theorem lopC {C:Ctx} {o:Oper} {σ:St} {e:Eff} {ro:Nat→Bool} (h:LOp C o σ e ro:=by
  first|(apply gLoad;(focus rfl);apply lop_ldp (L:=4);(focus rfl);(focus exact inferInstance);(focus rfl);(focus rfl);(focus rfl);(focus rfl);(focus rfl);(focus decide);(focus rfl);(focus rfl))|(apply lop_bsr (row:=aR _);(focus rfl);(focus exact inferInstance);(focus exact inferInstance);(focus exact inferInstance);(focus rfl);(focus rfl);(focus rfl);(focus decide);(focus decide);(focus rfl))|exact O3.lopC|(apply lop_ix_bl;(focus rfl);(focus exact inferInstance);(focus exact inferInstance);(focus rfl);(focus rfl);(focus rfl);(focus rfl);(focus omega);(focus omega);(focus omega);(focus rfl))|fail):LOp C o σ e ro:=h
section steps
variable {C:Ctx} {ops:Array Oper} {o:Oper} {rest:List Oper} {K:St→Prop} {σ:St} {e:Eff} {ro:Nat→Bool} {W:List (Nat × Nat)} {i:Nat}
theorem rnC {d:Nat} (hg:Guard ops σ o true:=by first|exact gd_n rfl rfl|exact gd_t rfl rfl rfl rfl|exact gd_t rfl rfl rfl (by assumption)) (hd:o.dst=some d:=by rfl) (h:LOp C o σ e ro:=by exact lopC) (hk:RunN C ops rest K (e.app (some d) σ)):RunN C ops (o::rest) K σ:=rn_any hg hd h hk
end steps
end O4
open O4
open O3 (rnSH rkSH stoH3)
theorem splitA_o (l:List Ha) (ex:Bool) (s:Int) (hl:l.length≤1000000):OCall Tryz.prog 51 [.p (.sl 4 (l.map haR) ex),.p (.i s)] (fun _=>(0,none)) (.tup [.one (.p (.sl 3 ((goneA l s).map aR) false)),.one (.osl 1000 (waitA l s).length 4 0 (waitA l s).length)]) (memL [(1000,((waitA l s).length+1,some (.buf 105 4 ((waitA l s).map haR))))]):=by
 refine ocall_ofF 1000 Tryz.func51 rfl (fun w0 F S0 M0=>?_)
 repeat' (first|refine jx17 ?_|refine jy0 ?_ ?_|exact spF|refine spQ fun hq hq'=>?_|refine spN fun hn=>?_|fail)
 refine aws_says (says_nil (t:=6) (o:=901) (es:=3) (ty:=41) rfl rfl (by decide)) ?_
 refine aws_says (says_nil (t:=7) (o:=1000) (es:=4) (ty:=105) rfl rfl (by decide)) ?_
 refine aws_loopS [6,7,9,12,13,14,15,16,17,18,19,20,21,22,23,24,25,26,27,28,29] [9,901,1000] (fun (x:Nat × Nat × Nat × List Ans × List Ha × (Nat × Option MO))=>[(12,.p (.i x.1)),(6,.o (.osl 901 x.2.1 3 0 x.2.2.2.1.length)),(7,.o (.osl 1000 x.2.2.1 4 0 x.2.2.2.2.1.length))]) (fun x=>[(9,x.2.2.2.2.2),(901,(x.2.1+1,some (.buf 41 3 (x.2.2.2.1.map aR)))),(1000,(x.2.2.1+1,some (.buf 105 4 (x.2.2.2.2.1.map haR))))]) (fun x=>x.1≤l.length∧x.2.2.2.1=goneA (l.take x.1) s∧x.2.2.2.2.1=waitA (l.take x.1) s∧x.2.2.1=x.2.2.2.2.1.length) (fun x=>l.length - x.1) (0,0,0,[],[],(0,none)) ⟨Nat.zero_le _,rfl,rfl,rfl⟩ (by exact knA) (by exact knA) ?_
 rintro ⟨i,g,v,G,V,m9⟩ β γ ⟨hi,hG,hV,hv⟩
 dsimp only at hi hG hV hv ⊢
 have hGl:G.length≤1000000:=by
  rw [hG];unfold goneA;rw [List.length_map]
  have:=List.length_filter_le (fun h:Ha=>decide (h.2≤s)) (l.take i)
  rw [List.length_take] at this;omega
 have hVl:V.length≤1000000:=by
  rw [hV];unfold waitA
  have:=List.length_filter_le (fun h:Ha=>!decide (h.2≤s)) (l.take i)
  rw [List.length_take] at this;omega
 by_cases hil:i < l.length
 ·have d1:decide ((i:Int) < (l.length:Int))=true:=decide_eq_true (by omega)
  have ei:(i:Int).toNat=i:=Int.toNat_natCast i
  have hg:=goneA_take (s:=s) hil
  have hw:=waitA_take (s:=s) hil
  rw [← hG] at hg
  rw [← hV] at hw
  rw [show l.getD i default=l.getD (i:Int).toNat default by rw [ei]] at hg hw
  clear hG hV
  by_cases q:(l.getD (i:Int).toNat default).2≤s
  ·have d2:decide ((l.getD (i:Int).toNat default).2≤s)=true:=decide_eq_true q
   rw [if_pos q] at hg hw
   rw [List.append_nil] at hw
   as_aux_lemma=>
    repeat' (first|refine jx17 ?_|refine jy0 ?_ ?_|exact spF|refine spQ fun hq hq'=>?_|refine spN fun hn=>?_|fail)
    exact ⟨(i+1,g+1,v,G++[(l.getD (i:Int).toNat default).1],V,_),_,by dsimp only;omega,⟨by dsimp only;omega,hg.symm,hw.symm,hv⟩,.refl,by exact frA⟩
  ·have d2:decide ((l.getD (i:Int).toNat default).2≤s)=false:=decide_eq_false q
   rw [if_neg q] at hg hw
   rw [List.append_nil] at hg
   as_aux_lemma=>
    repeat' (first|refine jx17 ?_|refine jy0 ?_ ?_|exact spF|refine spQ fun hq hq'=>?_|refine spN fun hn=>?_|fail)
    exact ⟨(i+1,g,v+1,G,V++[l.getD (i:Int).toNat default],_),_,by dsimp only;omega,⟨by dsimp only;omega,hg.symm,hw.symm,by dsimp only;rw [List.length_append,List.length_singleton,hv]⟩,.refl,by exact frA⟩
 ·have d1:decide ((i:Int) < (l.length:Int))=false:=decide_eq_false (by omega)
  obtain rfl:i=l.length:=by omega
  rw [List.take_length] at hG hV
  rw [← hG,← hV]
  subst hv
  clear hG hV
  as_aux_lemma=>
   repeat' (first|refine jx17 ?_|refine jy0 ?_ ?_|exact spF|refine spQ fun hq hq'=>?_|refine spN fun hn=>?_|fail)
   exact RetO.mk (ot2 rfl rfl (.one (finC_map rfl rfl rfl rfl)) rfl (.one (.kosl rfl)) rfl) ⟨.buf,trivial⟩
theorem obTold_o (n:Nat) (b:Bx) (s:Int) (hl:b.ans.length≤1000000):OCall Tryz.prog 19 [.o (.ptr 1000 n 0),.p (.i s)] (memL [(1000,(n+1,some (bxM b)))]) (.p (.sl 3 ((goneA b.ans s).map aR) false)) (memL [(1000,(n+1,some (bxM ⟨b.out,waitA b.ans s,b.lost⟩)))]):=by
 refine ocall_of1 Tryz.func19 rfl (fun w0 F S0 M0=>?_)
 refine aws_unex (p:=1000) (f:=bxP b) rfl fun ⟨P,hP⟩=>?_
 refine aws_says (says_unpack2 (p:=1000) (a:=901) (b:=902) (lo:=P.length) rfl rfl rfl (by decide) (by decide) (by decide) (bx_len P b.out) (List.length_map _)) ?_
 refine aws_says (says_frz_at (p:=1000) (o:=902) (k:=2) (ds:=[.p (.b true),.osl 901 0 41 P.length b.out.length,.p (.sl 4 (b.ans.map haR) false),.p (.i b.lost)]) rfl rfl rfl rfl rfl (List.length_map _).symm (by decide)) ?_
 haveI i1:∀ c m:Nat,OC Tryz.prog 51 [.p (.sl 4 (b.ans.map haR) false),.p (.i s)] [] [(c,m)] True (.tup [.one (.p (.sl 3 ((goneA b.ans s).map aR) false)),.one (.osl c (m+(waitA b.ans s).length) 4 0 (waitA b.ans s).length)]) [(c,(m+((waitA b.ans s).length+1),some (.buf 105 4 ((waitA b.ans s).map haR))))]:=fun c m=>⟨fun _=>(splitA_o b.ans false s hl).fresh1 c m⟩
 repeat' (first|refine jx18 ?_|refine jy0 ?_ ?_|exact spF|refine spQ fun hq hq'=>?_|refine spN fun hn=>?_|fail)
 refine aws_says (says_pack2 (p:=1000) (a:=901) (b:=15) (lo:=P.length) rfl rfl rfl rfl (by omega) (bx_le P b.out) (List.length_map _) (by decide) (by decide) (by decide)) ?_
 refine aws_says (says_toex (p:=1000) (f:=bxP ⟨b.out,waitA b.ans s,b.lost⟩) ⟨P,hP⟩ rfl) ?_
 as_aux_lemma=>
  repeat' (first|refine jx17 ?_|refine jy0 ?_ ?_|exact spF|refine spQ fun hq hq'=>?_|refine spN fun hn=>?_|fail)
  exact RetO.mk (ot1 rfl rfl finS_p rfl) ⟨.abs,trivial⟩
theorem obTold_i {c g n:Nat} {b:Bx} {s:Int}:OC Tryz.prog 19 [.o (.ptr c g 0),.p (.i s)] [(c,(n,some (bxM b)))] [] (n=g+1∧b.ans.length≤1000000) (.p (.sl 3 ((goneA b.ans s).map aR) false)) [(c,(n,some (bxM ⟨b.out,waitA b.ans s,b.lost⟩)))]:=⟨fun h=>by obtain ⟨rfl,h1⟩:=h;exact (obTold_o g b s h1).one c⟩
def zmk {α:Type} (l:List (α × Int)):List (α × Int):=l.map fun h=>(h.1,0)
theorem zmk_step {α:Type} [Inhabited α] {l:List (α × Int)} {i:Nat} (h:i < l.length):(zmk (l.take i)++l.drop i).set i (((zmk (l.take i)++l.drop i).getD i default).1,0)=zmk (l.take (i+1))++l.drop (i+1):=by
 have h1:(zmk (l.take i)).length=i:=by unfold zmk;rw [List.length_map,List.length_take];omega
 rw [List.set_append_right _ _ (by omega),h1,Nat.sub_self,List.getD_eq_getElem?_getD,List.getElem?_append_right (by omega),h1,Nat.sub_self,List.drop_eq_getElem_cons h,List.set_cons_zero,List.take_succ_eq_append_getElem h]
 unfold zmk
 rw [List.map_append,List.append_assoc];rfl
theorem zmk_len {α:Type} (l:List (α × Int)) (i:Nat):(zmk (l.take i)++l.drop i).length=l.length:=by unfold zmk;rw [List.length_append,List.length_map,List.length_take,List.length_drop];omega
theorem zmk_dig {l:List Hm} (hd:∀ h∈l,h.1.dig.length=32) {i:Nat} (h:i < l.length):((zmk (l.take i)++l.drop i).getD i default).1.dig.length=32:=by
 have h1:(zmk (l.take i)).length=i:=by unfold zmk;rw [List.length_map,List.length_take];omega
 rw [List.getD_eq_getElem?_getD,List.getElem?_append_right (by omega),h1,Nat.sub_self,List.drop_eq_getElem_cons h]
 exact hd _ (List.getElem_mem _)
theorem zmkP_step {P l:List Hm} {i:Nat} (h:i < l.length):(P++(zmk (l.take i)++l.drop i)).set (P.length+i) (((P++(zmk (l.take i)++l.drop i)).getD (P.length+i) default).1,0)=P++(zmk (l.take (i+1))++l.drop (i+1)):=by
 rw [List.set_append_right _ _ (Nat.le_add_right _ _),Nat.add_sub_cancel_left,← zmk_step h,List.getD_eq_getElem?_getD,List.getElem?_append_right (Nat.le_add_right _ _),Nat.add_sub_cancel_left,← List.getD_eq_getElem?_getD]
theorem zmkP_dig {P l:List Hm} (hd:∀ h∈l,h.1.dig.length=32) {i:Nat} (h:i < l.length):((P++(zmk (l.take i)++l.drop i)).getD (P.length+i) default).1.dig.length=32:=by
 rw [List.getD_eq_getElem?_getD,List.getElem?_append_right (Nat.le_add_right _ _),Nat.add_sub_cancel_left,← List.getD_eq_getElem?_getD]
 exact zmk_dig hd h
theorem zmkP_len (P l:List Hm) (i:Nat):(P++(zmk (l.take i)++l.drop i)).length=P.length+l.length:=by rw [List.length_append,zmk_len]
theorem obShift_o (n:Nat) (b:Bx) (hl:b.out.length≤1000000) (hla:b.ans.length≤1000000) (hd:∀ h∈b.out,h.1.dig.length=32):OCall Tryz.prog 16 [.o (.ptr 1000 n 0)] (memL [(1000,(n+1,some (bxM b)))]) (.tup []) (memL [(1000,(n+1,some (bxM ⟨zmk b.out,zmk b.ans,b.lost⟩)))]):=by
 refine ocall_of1 Tryz.func16 rfl (fun w0 F S0 M0=>?_)
 refine aws_unex (p:=1000) (f:=bxP b) rfl fun ⟨P,hP⟩=>?_
 refine aws_says (says_unpack2 (p:=1000) (a:=901) (b:=902) (lo:=P.length) rfl rfl rfl (by decide) (by decide) (by decide) (bx_len P b.out) (List.length_map _)) ?_
 repeat' (first|refine jx17 ?_|refine jy0 ?_ ?_|exact spF|refine spQ fun hq hq'=>?_|refine spN fun hn=>?_|fail)
 refine aws_loopS [2,11,12,13,14,15,16,17,18,19,20,21] [901] (fun (x:Nat × List Hm)=>[(11,.p (.i x.1))]) (fun x=>[(901,(1,some (.buf 103 41 (x.2.map hmR))))]) (fun x=>x.1≤b.out.length∧x.2=P++(zmk (b.out.take x.1)++b.out.drop x.1)) (fun x=>b.out.length - x.1) (0,P++b.out) ⟨Nat.zero_le _,rfl⟩ (by exact knA) (by exact knA) ?_
 rintro ⟨i,L⟩ β γ ⟨hi,hL⟩
 dsimp only at hi hL ⊢
 have hLl:L.length=P.length+b.out.length:=by rw [hL];exact zmkP_len _ _ _
 by_cases hil:i < b.out.length
 ·have d1:decide ((i:Int) < (b.out.length:Int))=true:=decide_eq_true (by omega)
  have ei:(i:Int).toNat=i:=Int.toNat_natCast i
  have hs:=zmkP_step (P:=P) hil
  have hx:=zmkP_dig (P:=P) hd hil
  rw [← hL] at hs hx
  rw [← ei] at hs hx
  clear hL
  as_aux_lemma=>
   repeat' (first|refine jx17 ?_|refine jy0 ?_ ?_|exact spF|refine spQ fun hq hq'=>?_|refine spN fun hn=>?_|fail)
   exact ⟨(i+1,L.set (P.length+(i:Int).toNat) ((L.getD (P.length+(i:Int).toNat) default).1,0)),_,by dsimp only;omega,⟨by dsimp only;omega,by dsimp only;rw [hs,ei]⟩,.refl,by exact frA⟩
 have d1:decide ((i:Int) < (b.out.length:Int))=false:=decide_eq_false (by omega)
 obtain rfl:i=b.out.length:=by omega
 rw [List.take_length,List.drop_length,List.append_nil] at hL
 subst hL
 repeat' (first|refine jx17 ?_|refine jy0 ?_ ?_|exact spF|refine spQ fun hq hq'=>?_|refine spN fun hn=>?_|fail)
 refine aws_loopS [3,27,28,29,30,31,32,33,34,35,36,37] [902] (fun (x:Nat × List Ha)=>[(27,.p (.i x.1))]) (fun x=>[(902,(1,some (.buf 105 4 (x.2.map haR))))]) (fun x=>x.1≤b.ans.length∧x.2=zmk (b.ans.take x.1)++b.ans.drop x.1) (fun x=>b.ans.length - x.1) (0,b.ans) ⟨Nat.zero_le _,rfl⟩ (by exact knA) (by exact knA) ?_
 rintro ⟨j,V⟩ β γ ⟨hj,hV⟩
 dsimp only at hj hV ⊢
 have hVl:V.length=b.ans.length:=by rw [hV];exact zmk_len _ _
 by_cases hjl:j < b.ans.length
 ·have d2:decide ((j:Int) < (b.ans.length:Int))=true:=decide_eq_true (by omega)
  have ej:(j:Int).toNat=j:=Int.toNat_natCast j
  have hs:=zmk_step hjl
  rw [← hV] at hs
  rw [← ej] at hs
  clear hV
  as_aux_lemma=>
   repeat' (first|refine jx17 ?_|refine jy0 ?_ ?_|exact spF|refine spQ fun hq hq'=>?_|refine spN fun hn=>?_|fail)
   exact ⟨(j+1,V.set (j:Int).toNat ((V.getD (j:Int).toNat default).1,0)),_,by dsimp only;omega,⟨by dsimp only;omega,by dsimp only;rw [hs,ej]⟩,.refl,by exact frA⟩
 have d2:decide ((j:Int) < (b.ans.length:Int))=false:=decide_eq_false (by omega)
 obtain rfl:j=b.ans.length:=by omega
 rw [List.take_length,List.drop_length,List.append_nil] at hV
 rw [← hV]
 have zl:(zmk b.out).length=b.out.length:=by unfold zmk;rw [List.length_map]
 refine aws_says (says_pack2 (p:=1000) (a:=901) (b:=902) (lo:=P.length) rfl rfl rfl rfl rfl ((bx_le P (zmk b.out)).trans (by rw [zl])) ((List.length_map _).trans hVl) (by decide) (by decide) (by decide)) ?_
 refine aws_says (says_toex (p:=1000) (f:=bxP ⟨zmk b.out,V,b.lost⟩) ⟨P,by rw [show (zmk b.out).length=b.out.length from zl];exact hP⟩ rfl) ?_
 as_aux_lemma=>
  repeat' (first|refine jx17 ?_|refine jy0 ?_ ?_|exact spF|refine spQ fun hq hq'=>?_|refine spN fun hn=>?_|fail)
  exact RetO.mk (res0 rfl rfl) ⟨.abs,trivial⟩
theorem obShift_i {c g n:Nat} {b:Bx}:OC Tryz.prog 16 [.o (.ptr c g 0)] [(c,(n,some (bxM b)))] [] (n=g+1∧b.out.length≤1000000∧b.ans.length≤1000000∧∀ h∈b.out,h.1.dig.length=32) (.tup []) [(c,(n,some (bxM ⟨zmk b.out,zmk b.ans,b.lost⟩)))]:=⟨fun h=>by obtain ⟨rfl,h1,h2,h3⟩:=h;exact (obShift_o g b h1 h2 h3).one c⟩
end Go.Proofs.YtkgploeegbmofaaGreat.Wi
