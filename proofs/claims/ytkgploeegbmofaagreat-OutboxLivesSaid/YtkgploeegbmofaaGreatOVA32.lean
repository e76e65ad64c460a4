/- messages, the law ProtoBack: what lives -/
import Derived.Test.YtkgploeegbmofaaGreatOVA31
import Derived.Test.YtkgploeegbmofaaGreatOVA34
import Derived.Test.YtkgploeegbmofaaGreatOVA33
import Derived.Test.YtkgploeegbmofaaGreatOVA36
namespace Go.Aw
set_option linter.unusedVariables false
section ops
variable {C:Ctx} {o:Oper} {σ:St}
end ops
end Go.Aw
namespace Go.Proofs.YtkgploeegbmofaaGreat.Wi
open Go Go.RowKit Go.Aw Go.Aw.Cart Go.Aw.Tree Go.Proofs.YtkgploeegbmofaaGreat.Ca Go.Proofs.YtkgploeegbmofaaGreat.Rg
set_option linter.unusedVariables false
set_option linter.unusedSimpArgs false
set_option maxRecDepth 8000
set_option maxHeartbeats 4000000
theorem ent_m {p0 p1 p2 p3 p4 x y z x' y' z':PVal} {d:List Nat} (h1:PE x x') (h2:PE y y') (h3:PE z z'):Ent1 (.a (.p p0::.p p1::.p p2::.p p3::.p p4::(d.map bcD++[.p x,.p y,.p z]))) (.a (.p p0::.p p1::.p p2::.p p3::.p p4::(d.map bcD++[.p x',.p y',.p z']))):=by
 have e:∀ a b c:PVal,(.p p0::.p p1::.p p2::.p p3::.p p4::(d.map bcD++[.p a,.p b,.p c]):List AC)=(p0::p1::p2::p3::p4::(d.map (fun n:Nat=>PVal.v (.int .u8 n))++[a,b,c])).map .p:=fun a b c=>by
  simp only [List.map_cons,List.map_append,List.map_map,List.map_nil]
  rfl
 rw [e,e]
 refine Ent1.cells (.cons .refl (.cons .refl (.cons .refl (.cons .refl (.cons .refl ?_)))))
 induction d with
 | nil=>exact .cons h1 (.cons h2 (.cons h3 .nil))
 | cons a d ih=>
  refine .cons .refl (ih fun a b c=>?_)
  simp only [List.map_cons,List.map_append,List.map_map,List.map_nil]
  rfl
theorem zeroD_ok:okB zeroD:=fun c hc=>by rw [List.eq_of_mem_replicate hc];decide
end Go.Proofs.YtkgploeegbmofaaGreat.Wi
namespace Go.Proofs.YtkgploeegbmofaaGreat.Wi
open Go Go.RowKit Go.Aw Go.Aw.Cart Go.Aw.Tree Go.Proofs.YtkgploeegbmofaaGreat.Ca Go.Proofs.YtkgploeegbmofaaGreat.Rg
set_option linter.unusedVariables false
set_option linter.unusedSimpArgs false
set_option maxRecDepth 8000
set_option maxHeartbeats 4000000
open V1
end Go.Proofs.YtkgploeegbmofaaGreat.Wi
namespace Go.Proofs.YtkgploeegbmofaaGreat.Wi
open Go Go.RowKit Go.Aw Go.Aw.Cart Go.Aw.Tree Go.Proofs.YtkgploeegbmofaaGreat.Ca Go.Proofs.YtkgploeegbmofaaGreat.Rg
set_option linter.unusedVariables false
set_option linter.unusedSimpArgs false
set_option maxRecDepth 8000
def sendsB (b:Bx) (m:Msg):Nat→Bx
 | 0=>b
 | k+1=>sendB (sendsB b m k) m (k:Int)
def doB (b:Bx) (o:Obp):Bx:=
 if o.kind=0 then sendB b o.msg o.mark
 else if o.kind=1 then tellB b o.ans o.mark
 else if o.kind=2 then ⟨waitF b.out o.mark,b.ans,b.lost⟩
 else if o.kind=3 then ⟨b.out,waitA b.ans o.mark,b.lost⟩
 else if o.kind=4 then ⟨zmk b.out,zmk b.ans,b.lost⟩
 else if o.kind=5 then sendsB b o.msg o.mark.toNat
 else b
structure BInv (n c:Nat) (b:Bx):Prop where
 out:b.out.length≤500
 msg:∀ h∈b.out,MIn h.1
 ans:b.ans.length≤n
 ll:∀ h∈b.ans,h.1.2.2.length≤100
 l0:0≤b.lost
 l1:b.lost≤c
theorem BInv.le {n c n' c':Nat} {b:Bx} (h:BInv n c b) (h1:n≤n') (h2:c≤c'):BInv n' c' b:=⟨h.out,h.msg,Nat.le_trans h.ans h1,h.ll,h.l0,by have:=h.l1;omega⟩
theorem BInv.send {n c:Nat} {b:Bx} (h:BInv n c b) {m:Msg} (hm:MIn m) (k:Int):BInv n (c+1) (sendB b m k):=by
 have hin:∀ x∈b.out++[(m,k)],MIn x.1:=fun x hx=>by
  rcases List.mem_append.1 hx with q|q
  ·exact h.msg x q
  ·rw [List.mem_singleton] at q;rw [q];exact hm
 unfold sendB putB
 split
 ·split
  ·rename_i hl
   exact ⟨by show (b.out++[(m,k)]).length≤500;rw [List.length_append,List.length_singleton];omega,hin,h.ans,h.ll,h.l0,by have:=h.l1;show b.lost≤_;omega⟩
  ·have ho:=h.out
   have hl0:=h.l0
   have hl1:=h.l1
   exact ⟨by show ((b.out++[(m,k)]).drop 1).length≤500;rw [List.length_drop,List.length_append,List.length_singleton];omega,fun x hx=>hin x (List.mem_of_mem_drop hx),h.ans,h.ll,by show 0≤b.lost+1;omega,by show b.lost+1≤_;omega⟩
 ·exact h.le (Nat.le_refl _) (Nat.le_succ _)
theorem BInv.sends {n c:Nat} {b:Bx} (h:BInv n c b) {m:Msg} (hm:MIn m):∀ k,BInv n (c+k) (sendsB b m k)
 | 0=>h
 | k+1=>(h.sends hm k).send hm _
theorem BInv.done {n c:Nat} {b:Bx} (h:BInv n c b) {o:Obp} (hm:MIn o.msg) (hl:o.ans.2.2.length≤100) (h5:o.kind=5→o.mark≤600):BInv (n+1) (if o.kind=5 then c+600 else c+1) (doB b o):=by
 have h':BInv (n+1) (c+1) b:=h.le (Nat.le_succ _) (Nat.le_succ _)
 unfold doB
 by_cases q5:o.kind=5
 ·rw [if_neg (show ¬ o.kind=0 by omega),if_neg (show ¬ o.kind=1 by omega),if_neg (show ¬ o.kind=2 by omega),if_neg (show ¬ o.kind=3 by omega),if_neg (show ¬ o.kind=4 by omega),if_pos q5,if_pos q5]
  have:=h5 q5
  exact (h.sends hm o.mark.toNat).le (Nat.le_succ _) (by omega)
 simp only [if_neg q5]
 split
 ·exact (h.send hm o.mark).le (Nat.le_succ _) (Nat.le_refl _)
 split
 ·unfold tellB
  split
  ·refine ⟨h.out,h.msg,by show (b.ans++[(o.ans,o.mark)]).length≤_;rw [List.length_append,List.length_singleton];have:=h.ans;omega,fun x hx=>?_,h.l0,h'.l1⟩
   rcases List.mem_append.1 hx with q|q
   ·exact h.ll x q
   ·rw [List.mem_singleton] at q;rw [q];exact hl
  ·exact h'
 split
 ·exact ⟨Nat.le_trans (List.length_filter_le _ _) h.out,fun x hx=>h.msg x ((List.mem_filter.1 hx).1),h'.ans,h.ll,h.l0,h'.l1⟩
 split
 ·exact ⟨h.out,h.msg,Nat.le_trans (List.length_filter_le _ _) h'.ans,fun x hx=>h.ll x ((List.mem_filter.1 hx).1),h.l0,h'.l1⟩
 split
 ·refine ⟨by show (zmk b.out).length≤500;unfold zmk;rw [List.length_map];exact h.out,fun x hx=>?_,by show (zmk b.ans).length≤_;unfold zmk;rw [List.length_map];exact h'.ans,fun x hx=>?_,h.l0,h'.l1⟩
  ·obtain ⟨y,hy,rfl⟩:=List.mem_map.1 hx;exact h.msg y hy
  ·obtain ⟨y,hy,rfl⟩:=List.mem_map.1 hx;exact h.ll y hy
 exact h'
theorem BInv.start:BInv 0 0 ⟨[],[],0⟩:=⟨Nat.zero_le _,fun h hh=>(by cases hh),Nat.le_refl _,fun h hh=>(by cases hh),Int.le_refl _,Int.le_refl _⟩
end Go.Proofs.YtkgploeegbmofaaGreat.Wi
namespace Go.Aw
open Go Go.RowKit
set_option linter.unusedVariables false
set_option linter.unusedSimpArgs false
section
variable {C:Ctx} {σ:St} {p np ty a na tA ea la b nb tB eb lb c nc tC ec d nd tD ed:Nat} {p4:PVal} {ra rb rc rd:List (List PVal)} {ma mb mc md:Option MO}
theorem says_unpack4 (hp:σ.mem p=(np,some (.abs (pkN ty [.b tA ea la ra,.b tB eb lb rb,.b tC ec 0 rc,.b tD ed 0 rd,.p p4])))) (ha:σ.mem a=(na,ma)) (hb:σ.mem b=(nb,mb)) (hc:σ.mem c=(nc,mc)) (hd:σ.mem d=(nd,md)) (hnd:([a,b,c,d,p]:List Nat).Nodup) {ka kb kc kd:Nat} (hla:ra.length - la=ka) (hlb:rb.length - lb=kb) (hlc:rc.length=kc) (hld:rd.length=kd) :
  Says C σ (((((σ.put d (nd+1,some (.buf tD ed rd))).put c (nc+1,some (.buf tC ec rc))).put b (nb+1,some (.buf tB eb rb))).put a (na+1,some (.buf tA ea ra))).put p (np,some (.box ty [.osl a na ea la ka,.osl b nb eb lb kb,.osl c nc ec 0 kc,.osl d nd ed 0 kd,.p p4]))):=by
 subst hla hlb hlc hld
 simp only [List.nodup_cons,List.mem_cons,List.not_mem_nil,or_false,not_or,List.nodup_nil,not_false_eq_true,and_true] at hnd
 obtain ⟨⟨h1,h2,h3,h4⟩,⟨h5,h6,h7⟩,⟨h8,h9⟩,h10⟩:=hnd
 exact says_unpackL (C:=C) (cells:=[.b a na tA ea la ra,.b b nb tB eb lb rb,.b c nc tC ec 0 rc,.b d nd tD ed 0 rd,.p p4]) hp (fun o n t e l r hm=>by
  simp only [List.mem_cons,List.not_mem_nil,or_false,Cl.b.injEq,reduceCtorEq] at hm
  rcases hm with ⟨rfl,rfl,rfl,rfl,rfl,rfl⟩ | ⟨rfl,rfl,rfl,rfl,rfl,rfl⟩ | ⟨rfl,rfl,rfl,rfl,rfl,rfl⟩ | ⟨rfl,rfl,rfl,rfl,rfl,rfl⟩
  ·exact ⟨by rw [ha],h4⟩
  ·exact ⟨by rw [hb],h7⟩
  ·exact ⟨by rw [hc],h9⟩
  ·exact ⟨by rw [hd],h10⟩) (clNd_of (by simp [clObs,h1,h2,h3,h5,h6,h8]))
theorem says_pack4 {ka kb kc kd xa xb xc xd:Nat} (hp:σ.mem p=(np,some (.box ty [.osl a na ea la ka,.osl b nb eb lb kb,.osl c nc ec 0 kc,.osl d nd ed 0 kd,.p p4]))) (ha:σ.mem a=(xa,some (.buf tA ea ra))) (hb:σ.mem b=(xb,some (.buf tB eb rb))) (hc:σ.mem c=(xc,some (.buf tC ec rc))) (hd:σ.mem d=(xd,some (.buf tD ed rd))) (ea':xa=na+1) (eb':xb=nb+1) (ec':xc=nc+1) (ed':xd=nd+1)
  (hla:ra.length=la+ka) (hlb:rb.length=lb+kb) (hlc:rc.length=kc) (hld:rd.length=kd) (hnd:([a,b,c,d,p]:List Nat).Nodup) :
  Says C σ (((((σ.put d (xd,none)).put c (xc,none)).put b (xb,none)).put a (xa,none)).put p (np,some (.abs (pkN ty [.b tA ea la ra,.b tB eb lb rb,.b tC ec 0 rc,.b tD ed 0 rd,.p p4])))):=by
 obtain rfl:ka=ra.length - la:=by omega
 obtain rfl:kb=rb.length - lb:=by omega
 subst hlc hld ea' eb' ec' ed'
 simp only [List.nodup_cons,List.mem_cons,List.not_mem_nil,or_false,not_or,List.nodup_nil,not_false_eq_true,and_true] at hnd
 obtain ⟨⟨h1,h2,h3,h4⟩,⟨h5,h6,h7⟩,⟨h8,h9⟩,h10⟩:=hnd
 exact says_packL (C:=C) (cells:=[.b a na tA ea la ra,.b b nb tB eb lb rb,.b c nc tC ec 0 rc,.b d nd tD ed 0 rd,.p p4]) hp (fun o n t e l r hm=>by
  simp only [List.mem_cons,List.not_mem_nil,or_false,Cl.b.injEq,reduceCtorEq] at hm
  rcases hm with ⟨rfl,rfl,rfl,rfl,rfl,rfl⟩ | ⟨rfl,rfl,rfl,rfl,rfl,rfl⟩ | ⟨rfl,rfl,rfl,rfl,rfl,rfl⟩ | ⟨rfl,rfl,rfl,rfl,rfl,rfl⟩
  ·exact ⟨ha,h4,by omega⟩
  ·exact ⟨hb,h7,by omega⟩
  ·exact ⟨hc,h9,Nat.zero_le _⟩
  ·exact ⟨hd,h10,Nat.zero_le _⟩) (clNd_of (by simp [clObs,h1,h2,h3,h5,h6,h8]))
end
theorem says_toexE {C:Ctx} {σ:St} {p n:Nat} {α:Type} {f:α→AObj} {A:AObj} (x:α) (hm:σ.mem p=(n,some (.abs A))) (hA:A=f x):Says C σ (σ.put p (n,some (.abs (exA f)))):=says_toex x (by rw [hm,hA])
end Go.Aw
namespace Go.Proofs.YtkgploeegbmofaaGreat.Wi
open Go Go.RowKit Go.Aw Go.Aw.Cart Go.Aw.Tree Go.Proofs.YtkgploeegbmofaaGreat.Ca Go.Proofs.YtkgploeegbmofaaGreat.Rg
set_option linter.unusedVariables false
set_option linter.unusedSimpArgs false
set_option maxRecDepth 8000
set_option maxHeartbeats 4000000
abbrev RP (b:Bx):={P:List Msg × List Int // (P.1=[]∧P.2=[])∨b.out.length=500}
abbrev rxL (b:Bx) (l1:Nat) (r1:List (List PVal)) (l2:Nat) (r2:List (List PVal)):AObj:=pkN 32 [.b 92 40 l1 r1,.b 3 1 l2 r2,.b 95 3 0 ((b.ans.map (·.1)).map aR),.b 3 1 0 ((b.ans.map (·.2)).map iRw),.p (.i b.lost)]
abbrev rxP (b:Bx) (P:RP b):AObj:=rxL b P.1.1.length ((P.1.1++b.out.map (·.1)).map mR) P.1.2.length ((P.1.2++b.out.map (·.2)).map iRw)
abbrev rxA (b:Bx):AObj:=exA (rxP b)
abbrev rxM (b:Bx):MO:=.abs (rxA b)
theorem rx_len {α β:Type} {f:α→List PVal} {g:β→α} (P:List α) (L:List β):((P++L.map g).map f).length - P.length=L.length:=by simp
theorem rx_le {α β:Type} {f:α→List PVal} {g:β→α} (P:List α) (L:List β):((P++L.map g).map f).length=P.length+L.length:=by simp
theorem rx_l0 {α β:Type} {f:α→List PVal} {g:β→α} (L:List β):((L.map g).map f).length=L.length:=by simp
theorem rx_drop {α β:Type} {f:α→List PVal} {g:β→α} (P:List α) (L:List β):((P++L.map g).map f).drop P.length=(L.map g).map f:=by rw [List.map_append];exact List.drop_left' (List.length_map _)
end Go.Proofs.YtkgploeegbmofaaGreat.Wi
namespace Go.Proofs.YtkgploeegbmofaaGreat.Wi
open Go Go.RowKit Go.Aw Go.Aw.Cart Go.Aw.Tree Go.Proofs.YtkgploeegbmofaaGreat.Ca Go.Proofs.YtkgploeegbmofaaGreat.Rg
set_option linter.unusedVariables false
set_option linter.unusedSimpArgs false
set_option maxRecDepth 8000
set_option maxHeartbeats 4000000
namespace OT
theorem lopC {C:Ctx} {o:Oper} {σ:St} {e:Eff} {ro:Nat→Bool} (h:LOp C o σ e ro:=by
  first|(apply lop_bsr (row:=aR _);(focus rfl);(focus exact inferInstance);(focus exact inferInstance);(focus exact inferInstance);(focus rfl);(focus rfl);(focus rfl);(focus decide);(focus decide);(focus rfl))|exact O4.lopC|fail):LOp C o σ e ro:=h
section steps
variable {C:Ctx} {ops:Array Oper} {o:Oper} {rest:List Oper} {K:St→Prop} {σ:St} {e:Eff} {ro:Nat→Bool} {W:List (Nat × Nat)} {i:Nat}
theorem rnC {d:Nat} (hg:Guard ops σ o true:=by first|exact gd_n rfl rfl|exact gd_t rfl rfl rfl rfl|exact gd_t rfl rfl rfl (by assumption)) (hd:o.dst=some d:=by rfl) (h:LOp C o σ e ro:=by exact lopC) (hk:RunN C ops rest K (e.app (some d) σ)):RunN C ops (o::rest) K σ:=rn_any hg hd h hk
theorem rkC {d:Nat} (hg:Guard ops σ o true:=by first|exact gd_n rfl rfl|exact gd_t rfl rfl rfl rfl|exact gd_t rfl rfl rfl (by assumption)) (hd':o.dst=some d:=by rfl) (hd:dOk C o.dst=true:=by rfl) (h:LOp C o σ e ro:=by exact lopC) (hro:∀ x,ro x=true→okObj ops W i x=true:=by first|exact fun _=>ro_none|exact ro_one rfl|exact ro_k1 rfl|exact ro_one (by kernel_rfl)|exact ro_k1 (by kernel_rfl)|exact ro_kIn (by decide)) (hob:∀ p∈e.obj,(i,p.1)∈W:=by first|exact ob_none|exact ob_one (by decide)|decide) (hk:RunK C ops W (i+1) rest K (e.app (some d) σ)):RunK C ops W i (o::rest) K σ:=rk_wr hg hd' hd h hro hob hk
end steps
end OT
open OT
open O3 (rnSH rkSH stoH3)
theorem rxTell_o (n:Nat) (b:Bx) (a:Ans) (k:Int) (hl:b.ans.length < 500000):OCall Tryz.prog 40 [.o (.ptr 1000 n 0),aV a,.p (.i k)] (memL [(1000,(n+1,some (rxM b)))]) (.p (.i (askF k))) (memL [(1000,(n+1,some (rxM (tellB b a k))))]):=by
 refine ocall_of1 Tryz.func40 rfl (fun w0 F S0 M0=>?_)
 unfold tellB askF
 by_cases q:k < 0
 ·have d1:decide (k < 0)=true:=decide_eq_true q
  rw [if_pos q,if_neg (by decide)]
  as_aux_lemma=>
   repeat' (first|refine jx17 ?_|refine jy0 ?_ ?_|exact spF|refine spQ fun hq hq'=>?_|refine spN fun hn=>?_|fail)
   exact RetO.mk (ot1 rfl rfl finS_p rfl) ⟨.abs,trivial⟩
 have d1:decide (k < 0)=false:=decide_eq_false q
 rw [if_neg q,if_pos rfl]
 have l1:(b.ans.map (·.1)).length < 500000:=by rw [List.length_map];exact hl
 have l2:(b.ans.map (·.2)).length < 500000:=by rw [List.length_map];exact hl
 repeat' (first|refine jx17 ?_|refine jy0 ?_ ?_|exact spF|refine spQ fun hq hq'=>?_|refine spN fun hn=>?_|fail)
 refine aws_unex (p:=1000) (f:=rxP b) rfl fun ⟨⟨P1,P2⟩,hP⟩=>?_
 refine aws_says (says_unpack4 (p:=1000) (a:=901) (b:=902) (c:=903) (d:=904) (la:=P1.length) (lb:=P2.length) rfl rfl rfl rfl rfl (by decide) (rx_len P1 b.out) (rx_len P2 b.out) (List.length_map _) (List.length_map _)) ?_
 refine aws_draws [(8,903),(15,904),(18,1000),(21,1000)] mixed (by kernel_rfl) ?_
 repeat' (first|refine jx21 ?_|refine jy1 ?_ ?_|exact spF|refine spQ fun hq hq'=>?_|fail)
 repeat' (first|refine jx18 ?_|refine jy0 ?_ ?_|exact spF|refine spQ fun hq hq'=>?_|refine spN fun hn=>?_|fail)
 refine aws_says (says_pack4 (p:=1000) (a:=901) (b:=902) (c:=903) (d:=904) (la:=P1.length) (lb:=P2.length) rfl rfl rfl rfl rfl rfl rfl rfl rfl (rx_le P1 b.out) (rx_le P2 b.out) (List.length_map _) (List.length_map _) (by decide)) ?_
 refine aws_says (says_toexE (p:=1000) (f:=rxP ⟨b.out,b.ans++[(a,k)],b.lost⟩) ⟨(P1,P2),hP⟩ rfl (by simp [rxP,rxL])) ?_
 as_aux_lemma=>
  repeat' (first|refine jx17 ?_|refine jy0 ?_ ?_|exact spF|refine spQ fun hq hq'=>?_|refine spN fun hn=>?_|fail)
  exact RetO.mk (ot1 rfl rfl finS_p rfl) ⟨.abs,trivial⟩
instance rxTell_i {c g n:Nat} {b:Bx} {a:Ans} {k:Int}:OC Tryz.prog 40 [.o (.ptr c g 0),aV a,.p (.i k)] [(c,(n,some (rxM b)))] [] (n=g+1∧b.ans.length < 500000) (.p (.i (askF k))) [(c,(n,some (rxM (tellB b a k))))]:=⟨fun h=>by obtain ⟨rfl,h1⟩:=h;exact (rxTell_o g b a k h1).one c⟩
theorem map_getD {α β:Type} [Inhabited α] [Inhabited β] (g:α→β) {l:List α} {i:Nat} (h:i < l.length):(l.map g).getD i default=g (l.getD i default):=by
 rw [getD_at (by rw [List.length_map];exact h),getD_at h,List.getElem_map]
theorem rxOut_o (n:Nat) (b:Bx) (s:Int) (hl:b.out.length≤1000000) (hd:∀ h∈b.out,h.1.dig.length=32):OCall Tryz.prog 15 [.o (.ptr 1000 n 0),.p (.i s)] (memL [(1000,(n+1,some (rxM b)))]) (.p (.sl 40 ((goneF b.out s).map mR) false)) (memL [(1000,(n+1,some (rxM ⟨waitF b.out s,b.ans,b.lost⟩)))]):=by
 refine ocall_of1 Tryz.func15 rfl (fun w0 F S0 M0=>?_)
 refine aws_unex (p:=1000) (f:=rxP b) rfl fun ⟨⟨P1,P2⟩,hP⟩=>?_
 refine aws_says (says_unpack4 (p:=1000) (a:=901) (b:=902) (c:=903) (d:=904) (la:=P1.length) (lb:=P2.length) rfl rfl rfl rfl rfl (by decide) (rx_len P1 b.out) (rx_len P2 b.out) (rx_l0 b.ans) (rx_l0 b.ans)) ?_
 obtain ⟨A,hA⟩:∃ A,A=b.out.map (·.1):=⟨_,rfl⟩
 obtain ⟨B,hB⟩:∃ B,B=b.out.map (·.2):=⟨_,rfl⟩
 have lA:A.length=b.out.length:=by rw [hA,List.length_map]
 have lB:B.length=b.out.length:=by rw [hB,List.length_map]
 refine aws_says (says_frz_lo (p:=1000) (o:=901) (k:=0) (ds:=[.p (.sl 40 (A.map mR) false),.osl 902 0 1 P2.length b.out.length,.osl 903 0 3 0 b.ans.length,.osl 904 0 1 0 b.ans.length,.p (.i b.lost)]) rfl rfl (by rw [rx_drop,← hA];rfl) rfl rfl (rx_le P1 b.out).symm (by decide)) ?_
 refine aws_says (says_frz_lo (p:=1000) (o:=902) (k:=1) (ds:=[.p (.sl 40 (A.map mR) false),.p (.sl 1 (B.map iRw) false),.osl 903 0 3 0 b.ans.length,.osl 904 0 1 0 b.ans.length,.p (.i b.lost)]) rfl rfl (by rw [rx_drop,← hB];rfl) rfl rfl (rx_le P2 b.out).symm (by decide)) ?_
 repeat' (first|refine jx17 ?_|refine jy0 ?_ ?_|exact spF|refine spQ fun hq hq'=>?_|refine spN fun hn=>?_|fail)
 refine aws_says (says_nil (t:=5) (o:=911) (es:=40) (ty:=92) rfl rfl (by decide)) ?_
 refine aws_says (says_nil (t:=6) (o:=912) (es:=40) (ty:=92) rfl rfl (by decide)) ?_
 refine aws_says (says_nil (t:=7) (o:=913) (es:=1) (ty:=3) rfl rfl (by decide)) ?_
 refine aws_loopS [5,6,7,8,9,10,11,12,13,14,15,16,17,18,19,20,21,22,23,24,25,26,27,28,29,30,31,32,33,34,35,36,37,38,39,40,41,42,43,44,45,46,47,48,49,50,51,52,53,54,55,56] [911,912,913] (fun (x:Nat × Nat × Nat × List Msg × List Hm)=>[(8,.p (.i x.1)),(5,.o (.osl 911 x.2.1 40 0 x.2.2.2.1.length)),(6,.o (.osl 912 x.2.2.1 40 0 (x.2.2.2.2.map (·.1)).length)),(7,.o (.osl 913 x.2.2.1 1 0 (x.2.2.2.2.map (·.2)).length))]) (fun x=>[(911,(x.2.1+1,some (.buf 92 40 (x.2.2.2.1.map mR)))),(912,(x.2.2.1+1,some (.buf 92 40 ((x.2.2.2.2.map (·.1)).map mR)))),(913,(x.2.2.1+1,some (.buf 3 1 ((x.2.2.2.2.map (·.2)).map iRw))))]) (fun x=>x.1≤b.out.length∧x.2.2.2.1=goneF (b.out.take x.1) s∧x.2.2.2.2=waitF (b.out.take x.1) s) (fun x=>b.out.length - x.1) (0,0,0,[],[]) ⟨Nat.zero_le _,rfl,rfl⟩ (by exact knA) (by exact knA) ?_
 rintro ⟨i,g,v,G,V⟩ β γ ⟨hi,hG,hV⟩
 dsimp only at hi hG hV ⊢
 have hGl:G.length≤1000000:=by
  rw [hG];unfold goneF;rw [List.length_map]
  have:=List.length_filter_le (fun h:Hm=>decide (h.2≤s)) (b.out.take i)
  rw [List.length_take] at this;omega
 have hVl:V.length≤1000000:=by
  rw [hV];unfold waitF
  have:=List.length_filter_le (fun h:Hm=>!decide (h.2≤s)) (b.out.take i)
  rw [List.length_take] at this;omega
 have hV1:(V.map (·.1)).length≤1000000:=by rw [List.length_map];exact hVl
 have hV2:(V.map (·.2)).length≤1000000:=by rw [List.length_map];exact hVl
 by_cases hil:i < b.out.length
 ·have d1:decide ((i:Int) < (A.length:Int))=true:=decide_eq_true (by omega)
  have ei:(i:Int).toNat=i:=Int.toNat_natCast i
  have hg:=gone_take (s:=s) hil
  have hw:=wait_take (s:=s) hil
  have eA:b.out.getD i default=(A.getD (i:Int).toNat default,B.getD (i:Int).toNat default):=by
   rw [ei,hA,hB,map_getD (·.1) hil,map_getD (·.2) hil]
  have hx:(A.getD (i:Int).toNat default).dig.length=32:=by
   have:=hd _ (show b.out.getD i default∈b.out by rw [getD_at hil];exact List.getElem_mem _)
   rw [eA] at this;exact this
  rw [← hG,eA] at hg
  rw [← hV,eA] at hw
  clear hG hV hd
  by_cases q:B.getD (i:Int).toNat default≤s
  ·have d2:decide (B.getD (i:Int).toNat default≤s)=true:=decide_eq_true q
   rw [if_pos q] at hg hw
   rw [List.append_nil] at hw
   as_aux_lemma=>
    repeat' (first|refine jx17 ?_|refine jy0 ?_ ?_|exact spF|refine spQ fun hq hq'=>?_|refine spN fun hn=>?_|fail)
    exact ⟨(i+1,g+1,v,G++[A.getD (i:Int).toNat default],V),_,by dsimp only;omega,⟨by dsimp only;omega,hg.symm,hw.symm⟩,.refl,by exact frA⟩
  ·have d2:decide (B.getD (i:Int).toNat default≤s)=false:=decide_eq_false q
   rw [if_neg q] at hg hw
   rw [List.append_nil] at hg
   repeat' (first|refine jx17 ?_|refine jy0 ?_ ?_|exact spF|refine spQ fun hq hq'=>?_|refine spN fun hn=>?_|fail)
   refine aws_draws [(9,912),(19,913)] mixed (by kernel_rfl) ?_
   repeat' (first|refine jx21 ?_|refine jy1 ?_ ?_|exact spF|refine spQ fun hq hq'=>?_|fail)
   as_aux_lemma=>
    repeat' (first|refine jx17 ?_|refine jy0 ?_ ?_|exact spF|refine spQ fun hq hq'=>?_|refine spN fun hn=>?_|fail)
    exact ⟨(i+1,g,v+1,G,V++[(A.getD (i:Int).toNat default,B.getD (i:Int).toNat default)]),_,by dsimp only;omega,⟨by dsimp only;omega,hg.symm,hw.symm⟩,.refl,by simp only [List.map_append,List.map_cons,List.map_nil];exact frA⟩
 ·have d1:decide ((i:Int) < (A.length:Int))=false:=decide_eq_false (by omega)
  obtain rfl:i=b.out.length:=by omega
  rw [List.take_length] at hG hV
  rw [← hG,← hV]
  clear hG hV hd
  repeat' (first|refine jx18 ?_|refine jy0 ?_ ?_|exact spF|refine spQ fun hq hq'=>?_|refine spN fun hn=>?_|fail)
  refine aws_says (says_pack4 (p:=1000) (a:=912) (b:=913) (c:=903) (d:=904) (la:=0) (lb:=0) rfl rfl rfl rfl rfl rfl rfl rfl rfl ((List.length_map _).trans (Nat.zero_add _).symm) ((List.length_map _).trans (Nat.zero_add _).symm) (rx_l0 b.ans) (rx_l0 b.ans) (by decide)) ?_
  refine aws_says (says_toexE (p:=1000) (f:=rxP ⟨V,b.ans,b.lost⟩) ⟨([],[]),.inl ⟨rfl,rfl⟩⟩ rfl (by simp [rxP,rxL])) ?_
  as_aux_lemma=>
   repeat' (first|refine jx17 ?_|refine jy0 ?_ ?_|exact spF|refine spQ fun hq hq'=>?_|refine spN fun hn=>?_|fail)
   exact RetO.mk (ot1 rfl rfl (.one (finC_map rfl rfl rfl rfl)) rfl) ⟨.abs,trivial⟩
theorem rxOut_i {c g n:Nat} {b:Bx} {s:Int}:OC Tryz.prog 15 [.o (.ptr c g 0),.p (.i s)] [(c,(n,some (rxM b)))] [] (n=g+1∧b.out.length≤1000000∧∀ h∈b.out,h.1.dig.length=32) (.p (.sl 40 ((goneF b.out s).map mR) false)) [(c,(n,some (rxM ⟨waitF b.out s,b.ans,b.lost⟩)))]:=⟨fun h=>by obtain ⟨rfl,h1,h2⟩:=h;exact (rxOut_o g b s h1 h2).one c⟩
end Go.Proofs.YtkgploeegbmofaaGreat.Wi
