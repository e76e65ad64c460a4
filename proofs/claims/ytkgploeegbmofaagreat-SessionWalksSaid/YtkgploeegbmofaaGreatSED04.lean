/- sessions, plainly: the rounds of a whole walk -/
import Derived.Test.YtkgploeegbmofaaGreatSED01
import Derived.Test.YtkgploeegbmofaaGreatSEA18
import Derived.Test.YtkgploeegbmofaaGreatSEA31
namespace Go.Proofs.YtkgploeegbmofaaGreat.Wi
open Go Go.RowKit Go.Aw Go.Aw.Sha Go.Aw.Cart Go.Aw.Tree Go.Aw.Clash Go.Proofs.YtkgploeegbmofaaGreat.Ca Go.Proofs.YtkgploeegbmofaaGreat.Rg
set_option linter.unusedVariables false
set_option linter.unusedSimpArgs false
set_option maxRecDepth 8000
attribute [local irreducible] sum
theorem okB_rowF (ls:List (List Nat)) {p:Nat} (h:p < 21):okB (row (ofF ls) p):=by
 rw [← made_sum h];exact sum_okB _
theorem z32_ok:okB zeroD:=fun c hc=>by rw [List.eq_of_mem_replicate hc];decide
theorem said_in {ls:List (List Nat)} {s:Ses} {l:List Kd} (hs:rightS s=true) (hr:keysF l=true) (h30:l.length≤30) (hk:∀ k∈l,KdI k) (hf:∀ k∈l,k.2.2.length≤1000000):MIn (saidF (ofF ls) s l):=by
 have hp:=pls_few hs
 have h7:=(right_parts hs).2.2.2.2.2.2.1
 have hq:s.round=3→lvlF s.pls 2=true:=fun h3=>by
  unfold plsB at h7
  rw [if_neg (by omega),h3] at h7
  exact h7
 have hc:s.round=3→(cartsF l s.part s.pls).length≤480∧∀ e∈cartsF l s.part s.pls,e∈l:=fun h3=>by
  obtain ⟨h1,h2,_⟩:=leaves_rise (hq h3)
  have h4:=carts_ok hr h30 (part:=s.part) (L:=leavesL s.pls) (by omega) (leavesL s.pls).length (Nat.le_refl _)
  rw [List.take_length] at h4
  refine ⟨by have:=h4.2;unfold cartsF;omega,fun e he=>?_⟩
  have he':e∈cartsTo l s.part ((leavesL s.pls).take (leavesL s.pls).length):=by rw [List.take_length];exact he
  obtain ⟨n,hn,hm⟩:=mem_carts (leavesL s.pls).length (Nat.le_refl _) he'
  exact (of_mem hr hm).1
 unfold saidF
 constructor
 ·dsimp only;split
  ·exact row_len (ofF_672' _) (by omega)
  ·rfl
 ·dsimp only;split
  ·exact okB_rowF ls (by omega)
  ·exact z32_ok
 ·dsimp only;omega
 ·dsimp only;simp
 ·dsimp only;intro d hd;cases hd
 ·dsimp only;split
  ·rename_i h3;have:=(hc h3).1;omega
  ·simp
 ·dsimp only;intro k h;split at h
  ·rename_i h3;exact hk k ((hc h3).2 k h)
  ·cases h
 ·dsimp only;intro k h;split at h
  ·rename_i h3;exact hf k ((hc h3).2 k h)
  ·cases h
theorem digs_in (ls:List (List Nat)) (P:List Int):∀ d∈digsL (ofF ls) (kidsL P),d.length=32∧okB d:=by
 intro d hd
 unfold digsL at hd
 obtain ⟨p,hp,rfl⟩:=List.mem_map.1 hd
 obtain ⟨i,hi,rfl⟩:=List.getElem_of_mem hp
 have:=kidsL_get (l:=P) hi
 have e:(kidsL P).getD i default=(kidsL P)[i]:=by rw [List.getD_eq_getElem?_getD,List.getElem?_eq_getElem hi];rfl
 rw [e] at this
 exact ⟨row_len (ofF_672' _) (by omega),okB_rowF ls (by omega)⟩
theorem ans_in {ls:List (List Nat)} {m:Msg} (hm:MIn m) (hp:m.pls.length≤16):MIn (ansF (ofF ls) m):=by
 have hz:MIn ⟨4,m.to,m.frm,m.ses,m.part,zeroD,[],[],[]⟩:=⟨rfl,z32_ok,by simp,by simp,fun d hd=>(by cases hd),by simp,fun d hd=>(by cases hd),fun d hd=>(by cases hd)⟩
 have hd:∀ P:List Int,P.length≤16→MIn ⟨5,m.to,m.frm,m.ses,m.part,zeroD,P,digsL (ofF ls) (kidsL P),[]⟩:=fun P h=>⟨rfl,z32_ok,by dsimp only;omega,by have:=kidsL_le P;dsimp only;unfold digsL;rw [List.length_map];omega,digs_in ls P,by simp,fun d hd=>(by cases hd),fun d hd=>(by cases hd)⟩
 unfold ansF
 split
 ·split
  ·exact hz
  ·exact hd [0] (by decide)
 ·split
  ·exact hd m.pls hp
  ·exact ⟨rfl,z32_ok,by dsimp only;omega,by simp,fun d hd=>(by cases hd),by simp,fun d hd=>(by cases hd),fun d hd=>(by cases hd)⟩
theorem ans_pls {U:List Nat} {m:Msg} (hp:m.pls.length≤16):(ansF U m).pls.length≤16:=by
 unfold ansF
 split
 ·split
  ·simp
  ·simp
 ·split
  ·exact hp
  ·exact hp
def WP (T U:List Nat) (s:Ses) (k:Nat) (c:Ses) (g:List Int):Prop:=
 rightS c=true∧c.part=s.part∧
  (c.round=1∧k=0∧g=[]∨c.round=2∧c.pls=unL T U [0]∧k=1∧g=[]∧row T 0≠row U 0∨c.round=3∧c.pls=unL T U (unL T U [0])∧k=2∧g=[]∧row T 0≠row U 0∧unL T U [0]≠[]∨
   c.round=0∧g=leavesL (walkF T U).1∧k≤3∧(row T 0=row U 0→k=1))
theorem un_sub {T U:List Nat} {P:List Int}:(unL T U P).Sublist (kidsL P):=List.filter_sublist
theorem wp_step {T U:List Nat} {s c:Ses} {k:Nat} {g:List Int} {l:List Kd} (hr:keysF l=true) (h30:l.length≤30) (h:WP T U s k c g) (h0:c.round≠0) :
  rightM (saidF T c l)=true∧rightM (ansF U (saidF T c l))=true∧∃ t,hearAll T c l (ansF U (saidF T c l)) 6=(t,[],0)∧rightS t=true∧WP T U s (k+1) t (if c.round=3 then leavesL c.pls else g):=by
 obtain ⟨hs,hp,h⟩:=h
 have h7:=(right_parts hs).2.2.2.2.2.2.1
 rcases h with ⟨r,rfl,rfl⟩ | ⟨r,hP,rfl,rfl,hn⟩ | ⟨r,hP,rfl,rfl,hn,hn2⟩ | ⟨r,_⟩
 ·obtain ⟨a,b,e⟩:=wk1 (T:=T) (U:=U) hs hr r
  refine ⟨a,b,_,e,?_⟩
  rw [if_neg (show ¬ c.round=3 by omega)]
  by_cases q:row U 0=row T 0∨unL T U [0]=[]
  ·rw [if_pos q]
   refine ⟨end_right hs,end_right hs,hp,.inr (.inr (.inr ⟨rfl,?_,by omega,fun _=>rfl⟩))⟩
   unfold walkF
   by_cases q1:row T 0=row U 0
   ·rw [if_pos q1];rfl
   ·rw [if_neg q1,if_pos (q.resolve_left fun z=>q1 z.symm)];rfl
  ·rw [if_neg q]
   have hR:rightS (rndS c 2 (unL T U [0]) 6)=true:=rnd_right hs (by decide) (by
    unfold plsB
    rw [if_neg (by decide)]
    exact lvl_next lvl_0 (.inl rfl) un_sub fun z=>q (.inr z)) (by decide)
   exact ⟨hR,hR,hp,.inr (.inl ⟨rfl,rfl,rfl,rfl,fun z=>q (.inl z.symm)⟩)⟩
 ·obtain ⟨a,b,e⟩:=wk2 (T:=T) (U:=U) hs hr r
  have hv:lvlF c.pls 1=true:=by
   unfold plsB at h7
   rw [if_neg (by omega),r] at h7
   exact h7
  have hne:=(lvl_iff.1 hv).2.2
  refine ⟨a,b,_,e,?_⟩
  rw [if_neg (show ¬ c.round=3 by omega)]
  rw [hP] at hne ⊢
  by_cases q:unL T U (unL T U [0])=[]
  ·rw [if_pos q]
   refine ⟨end_right hs,end_right hs,hp,.inr (.inr (.inr ⟨rfl,?_,by omega,fun z=>absurd z hn⟩))⟩
   unfold walkF
   rw [if_neg hn,if_neg hne,if_pos q];rfl
  ·rw [if_neg q]
   have hR:rightS (rndS c 3 (unL T U (unL T U [0])) 6)=true:=rnd_right hs (by decide) (by
    unfold plsB
    rw [if_neg (by decide)]
    rw [hP] at hv
    exact lvl_next hv (.inr rfl) un_sub q) (by decide)
   exact ⟨hR,hR,hp,.inr (.inr (.inl ⟨rfl,rfl,rfl,rfl,hn,hne⟩))⟩
 ·obtain ⟨a,b,e⟩:=wk3 (T:=T) (U:=U) hs hr h30 r
  have hv:lvlF c.pls 2=true:=by
   unfold plsB at h7
   rw [if_neg (by omega),r] at h7
   exact h7
  have hne:=(lvl_iff.1 hv).2.2
  refine ⟨a,b,_,e,end_right hs,end_right hs,hp,.inr (.inr (.inr ⟨rfl,?_,by omega,fun z=>absurd z hn⟩))⟩
  rw [if_pos r]
  rw [hP] at hne ⊢
  unfold walkF
  rw [if_neg hn,if_neg hn2,if_neg hne]
 ·exact absurd r h0
theorem wp_k {T U:List Nat} {s c:Ses} {k:Nat} {g:List Int} (h:WP T U s k c g):k≤3∧(c.round≠0→k≤2):=by
 obtain ⟨_,_,h⟩:=h
 omega
theorem wp_end {T U:List Nat} {s c:Ses} {k:Nat} {g:List Int} (h:WP T U s k c g) (h0:c.round=0):g=leavesL (walkF T U).1∧k≤3∧(row T 0=row U 0→k=1):=by
 obtain ⟨_,_,h⟩:=h
 rcases h with ⟨r,_⟩ | ⟨r,_⟩ | ⟨r,_⟩ | ⟨_,h⟩
 ·omega
 ·omega
 ·omega
 ·exact h
end Go.Proofs.YtkgploeegbmofaaGreat.Wi
namespace Go.Proofs.YtkgploeegbmofaaGreat.Cl
open Go Go.RowKit Go.Aw Go.Aw.Sha Go.Aw.Tree Go.Aw.Clash Go.Proofs.YtkgploeegbmofaaGreat.Sh Go.Proofs.YtkgploeegbmofaaGreat.Tr
set_option linter.unusedVariables false
set_option linter.unusedSimpArgs false
set_option maxRecDepth 8000
attribute [local irreducible] sum
set_option maxHeartbeats 4000000
abbrev walkV (x:List Int × Int × Int):AV:=.tup [.one (.p (.sl 1 (x.1.map fun n=>[PVal.i n]) false)),.one (.p (.i x.2.1)),.one (.p (.i x.2.2))]
theorem walkV_eq {x y:List Int × Int × Int} (h:y=x):walkV x=walkV y:=by rw [h]
theorem walk_w (T U:List Nat) (h:T.length=672∧U.length=672):PCall Tryz.prog 70 [tv T,tv U] (walkV (walkF T U)):=by
 refine pcall_of Tryz.func70 rfl (fun w0 F S0 M0=>?_)
 obtain ⟨hT,hU⟩:=h
 repeat' (first|refine jx17 ?_|refine jy0 ?_ ?_|exact spF|refine spQ fun hq hq'=>?_|refine spN fun hn=>?_|fail)
 refine aws_scopeM 0 [4,5,6,7,8,9,10,11,12,13,14,15,16,17,18,19,20,21,22,23,24,25,26,27,28,29,30,31,32,33,34,35,36,37,38,39,40,41] [] (fun r:Nat=>[(7,.p (.sl 1 ((wst T U r).1.map fun n=>[PVal.i n]) (wst T U r).2.1)),(8,.p (.i (wst T U r).2.2)),(9,.p (.i r))]) (fun _=>[]) (wstP T U) (fun r=>2 - r) rfl ?_ ?_
 ·intro r β γ hP
  have hend:=wst_end hP
  have hstop:=wst_stop hP
  have hnext:=wst_next hP
  have hlen:=wst_len (T:=T) (U:=U) r
  have hkb:=wst_k (T:=T) (U:=U) r
  dsimp only
  generalize hw:wst T U r=w at hend hstop hnext hlen hkb
  obtain ⟨l,ex,k⟩:=w
  simp only at hend hstop hnext hlen hkb
  have hkl:=kidsL_le l
  have hul:=unL_le (T:=T) (U:=U) l
  have hdl:(digsL U (kidsL l)).length=(kidsL l).length:=by unfold digsL;rw [List.length_map]
  have hr2:r≤2:=hP.1
  dsimp only
  by_cases hk:kidsL l=[]
  ·have hd:decide (((digsL U (kidsL l)).length:Int)=0)=true:=decide_eq_true (by rw [hdl,hk];rfl)
   repeat' (first|refine jx17 ?_|refine jy0 ?_ ?_|exact spF|refine spQ fun hq hq'=>?_|refine spN fun hn=>?_|fail)
   obtain ⟨h1,h2⟩:=hend hk
   subst h2
   exact rt3 rfl rfl finS_p rfl finS_p rfl finS_p (walkV_eq h1.symm)
  ·have hkp:0 < (kidsL l).length:=List.length_pos_iff.2 hk
   have hd:decide (((digsL U (kidsL l)).length:Int)=0)=false:=decide_eq_false (by rw [hdl];omega)
   by_cases hu:unL T U l=[]
   ·have hd2:decide (((unL T U l).length:Int) > 0)=false:=decide_eq_false (by rw [hu];simp)
    repeat' (first|refine jx17 ?_|refine jy0 ?_ ?_|exact spF|refine spQ fun hq hq'=>?_|refine spN fun hn=>?_|fail)
    refine rt3 (u0:=.one (.p (.sl 1 [] false))) rfl rfl (.one .nil) rfl finS_p rfl finS_p ?_
    rw [hstop hk hu,hdl];rfl
   ·have hup:0 < (unL T U l).length:=List.length_pos_iff.2 hu
    have hd2:decide (((unL T U l).length:Int) > 0)=true:=decide_eq_true (by omega)
    obtain ⟨h1,h2,h3⟩:=hnext hk hu
    repeat' (first|refine jx17 ?_|refine jy0 ?_ ?_|exact spF|refine spQ fun hq hq'=>?_|refine spN fun hn=>?_|fail)
    refine ⟨rfl,r+1,_,by omega,h3,.refl,?_⟩
    rw [h2,← hdl]
    exact frA
 ·intro hl
  by_cases h0:row T 0=row U 0
  ·have hd:decide (row T 0=row U 0)=true:=decide_eq_true h0
   repeat' (first|refine jx17 ?_|refine jy0 ?_ ?_|exact spF|refine spQ fun hq hq'=>?_|refine spN fun hn=>?_|fail)
   refine rt3 (u0:=.one (.p (.sl 1 [] false))) rfl rfl (.one .nil) rfl finS_p rfl finS_p ?_
   unfold walkF
   rw [if_pos h0];rfl
  ·have hd:decide (row T 0=row U 0)=false:=decide_eq_false h0
   have hlab:=fun s=>hl 0 s ⟨by omega,fun h=>absurd h (by omega),fun h=>absurd h (by omega),h0⟩
   repeat' (first|refine jx26 ?_|refine jy0 ?_ ?_|exact spF|refine spQ fun hq hq'=>?_|refine spN fun hn=>?_|fail)
   exact frA
instance {T U:List Nat}:PC Tryz.prog 70 [tv T,tv U] (T.length=672∧U.length=672) (walkV (walkF T U)):=⟨walk_w T U⟩
theorem diff_w (T U:List Nat) (h:T.length=672∧U.length=672):PCall Tryz.prog 31 [tv T,tv U] (.tup [.one (.p (.sl 1 ((leavesL (walkF T U).1).map fun n=>[PVal.i n]) false)),.one (.p (.i (walkF T U).2.1))]):=by
 refine pcall_of Tryz.func31 rfl (fun w0 F S0 M0=>?_)
 obtain ⟨hT,hU⟩:=h
 have hlen:=walkF_len (T:=T) (U:=U)
 repeat' (first|refine jx17 ?_|refine jy0 ?_ ?_|exact spF|refine spQ fun hq hq'=>?_|refine spN fun hn=>?_|fail)
 exact rt2 rfl rfl finS_p rfl finS_p rfl
end Go.Proofs.YtkgploeegbmofaaGreat.Cl
