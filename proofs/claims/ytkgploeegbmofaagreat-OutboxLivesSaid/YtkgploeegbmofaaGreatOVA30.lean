/- messages written -/
import Derived.Test.YtkgploeegbmofaaGreatOVA21
import Derived.Test.YtkgploeegbmofaaGreatOVA18
namespace Go.Proofs.YtkgploeegbmofaaGreat.Wi
open Go Go.RowKit Go.Aw Go.Aw.Cart Go.Aw.Tree Go.Proofs.YtkgploeegbmofaaGreat.Ca Go.Proofs.YtkgploeegbmofaaGreat.Rg
set_option linter.unusedVariables false
set_option linter.unusedSimpArgs false
set_option maxRecDepth 8000
set_option maxHeartbeats 4000000
def headM (m:Msg):List Int:=[m.kind,m.frm,m.to,m.ses,m.part]
def msgH (m:Msg):List Nat:=(headM m).flatMap numI++((if m.kind=1 then m.dig else [])++(numB m.pls.length++(m.pls.flatMap numI++(numB m.dgs.length++m.dgs.flatMap id))))
def msgB (m:Msg):List Nat:=msgH m++listB m.kds
theorem nums_le (l:List Int):(l.flatMap numI).length≤9 * l.length:=by
 induction l with
 | nil=>exact Nat.le_refl _
 | cons a l ih=>
  rw [List.flatMap_cons,List.length_append,List.length_cons]
  have:=numI_len a
  omega
theorem digs_le {l:List (List Nat)} (h:∀ d∈l,d.length=32):(l.flatMap id).length=32 * l.length:=by
 induction l with
 | nil=>rfl
 | cons a l ih=>
  rw [List.flatMap_cons,List.length_append,List.length_cons,ih fun d hd=>h d (List.mem_cons_of_mem _ hd)]
  have:=h a List.mem_cons_self
  show a.length+_=_
  omega
theorem kdI_le {l:List Kd} (hk:keysF l=true) (hin:∀ k∈l,KdI k):(listB l).length≤50000000:=by
 have ho:=keys_iff.1 hk
 have h1:=ho.few
 have h2:(l.flatMap kdB).length≤20029 * l.length:=by
  have key:∀ l:List Kd,(∀ k∈l,(kdB k).length≤20029)→(l.flatMap kdB).length≤20029 * l.length:=by
   intro l h
   induction l with
   | nil=>exact Nat.le_refl _
   | cons a l ih=>
    rw [List.flatMap_cons,List.length_append,List.length_cons]
    have q1:=h a List.mem_cons_self
    have q2:=ih fun d hd=>h d (List.mem_cons_of_mem _ hd)
    omega
  exact key l fun k hk=>kdB_len (ho.key k hk) (hin k hk).vec (ho.cart k hk)
 have h3:=numI_len (l.length:Int)
 rw [numI_nat] at h3
 unfold listB
 rw [List.length_append]
 omega
namespace T7
theorem lopC {C:Ctx} {o:Oper} {σ:St} {e:Eff} {ro:Nat→Bool} (h:LOp C o σ e ro:=by
  first|(apply lop_build_ar;(focus rfl);(focus exact inferInstance);(focus exact inferInstance);(focus exact inferInstance);(focus repeat' (first|exact All2.nil|apply bp_cons rfl));(focus decide);(focus exact sn5 rfl);(focus rfl))|exact T6.lopC|fail):LOp C o σ e ro:=h
section steps
variable {C:Ctx} {ops:Array Oper} {o:Oper} {rest:List Oper} {K:St→Prop} {σ:St} {e:Eff} {ro:Nat→Bool} {W:List (Nat × Nat)} {i:Nat}
theorem rnC {d:Nat} (hg:Guard ops σ o true:=by first|exact gd_n rfl rfl|exact gd_t rfl rfl rfl rfl|exact gd_t rfl rfl rfl (by assumption)) (hd:o.dst=some d:=by rfl) (h:LOp C o σ e ro:=by exact lopC) (hk:RunN C ops rest K (e.app (some d) σ)):RunN C ops (o::rest) K σ:=rn_any hg hd h hk
end steps
end T7
open T7
theorem mwrite_ok (m:Msg) (h:MIn m) (hr:rightM m=true):PCall Tryz.prog 48 [mV m] (.tup [.one (.p (.sl 1 ((msgB m).map bR) false)),.one (.p (.i 0))]):=by
 refine pcall_of Tryz.func48 rfl (fun w0 F S0 M0=>?_)
 have ok:=right_ok hr
 have hm:=h.d32
 have h32:(m.dig.map bcD).length=32:=by rw [List.length_map];exact hm
 haveI i0:PC Tryz.prog 32 [mV m] True (.p (.b true)):=⟨fun _=>by have:=mright_w m h;rwa [hr] at this⟩
 have d0:(!true)=false:=rfl
 have pl:=ok.pl
 have dl:=ok.dl
 have hnl:=numI_len (m.pls.length:Int)
 have hdl:=numI_len (m.dgs.length:Int)
 rw [numI_nat] at hnl hdl
 have hkd:=kdI_le ok.kds h.kd
 haveI i1:PC Tryz.prog 89 [.p (.sl 10 (m.kds.map kR) false)] True (.tup [.one (.p (.sl 1 ((listB m.kds).map bR) false)),.one (.p (.i 0))]):=⟨fun _=>writeAll_ok m.kds false ok.kds h.kd⟩
 have hhd:∀ x∈headM m,0≤x∧x≤1099511627776:=by
  intro x hx
  simp only [headM,List.mem_cons,List.not_mem_nil,or_false] at hx
  have k1:=ok.kind
  have k2:=ok.frm
  have k3:=ok.to
  have k4:=ok.ses
  have k5:=ok.part
  rcases hx with rfl|rfl|rfl|rfl|rfl<;>omega
 have hpls:=ok.pls
 have hdg:=fun d hd=>(h.dg d hd).1
 clear h ok
 repeat' (first|refine jx5 ?_|refine jy0 ?_ ?_|exact spF|refine spQ fun hq hq'=>?_|refine spN fun hn=>?_|fail)
 refine aws_says (says_wr (p:=17) rfl) ?_
 refine aws_loopS [6,29,30,31,32,33,34,35,36] [17] (fun (x:Nat × List Nat)=>[(29,.p (.i x.1))]) (fun x=>[(17,(1,some (.abs (wrA x.2))))]) (fun x=>x.1≤5∧x.2=((headM m).take x.1).flatMap numI) (fun x=>5 - x.1) (0,[]) ⟨Nat.zero_le _,rfl⟩ (by exact knA) (by exact knA) ?_
 rintro ⟨i,L⟩ β γ ⟨hi,hL⟩
 dsimp only at hi hL ⊢
 by_cases hi5:i < 5
 ·have d1:decide ((i:Int) < 5)=true:=decide_eq_true (by omega)
  have ei:(i:Int).toNat=i:=Int.toNat_natCast i
  have hil:i < (headM m).length:=hi5
  have hft:=flat_take numI hil
  rw [← hL,show (headM m).getD i default=(headM m).getD (i:Int).toNat default by rw [ei]] at hft
  have hx:=hhd ((headM m).getD (i:Int).toNat default) (by rw [ei,getD_at hil];exact List.getElem_mem _)
  have hLl:L.length≤1000:=by
   rw [hL]
   have:=nums_le ((headM m).take i)
   rw [List.length_take] at this
   have:(headM m).length=5:=rfl
   omega
  repeat' (first|refine jx5 ?_|refine jy0 ?_ ?_|exact spF|refine spQ fun hq hq'=>?_|refine spN fun hn=>?_|fail)
  refine rn_any (gd_n rfl rfl) rfl (lop_ixv (f:=fun n:Int=>AC.p (.i n)) (l:=headM m) rfl inferInstance inferInstance rfl rfl inferInstance (by omega) (by omega) (by show (i:Int) < ((5:Nat):Int);omega) rfl rfl rfl rfl) ?_
  generalize (headM m).getD (i:Int).toNat default=X at hx hft ⊢
  have hw:IntKind.u64.wrap X=X:=u64_in (by omega)
  as_aux_lemma=>
   repeat' (first|refine jx5 ?_|refine jy0 ?_ ?_|exact spF|refine spQ fun hq hq'=>?_|refine spN fun hn=>?_|fail)
   exact ⟨(i+1,L++numI X),_,by dsimp only;omega,⟨by dsimp only;omega,hft.symm⟩,.refl,by exact frA⟩
 ·have d1:decide ((i:Int) < 5)=false:=decide_eq_false (by omega)
  obtain rfl:i=5:=by omega
  rw [show (headM m).take 5=headM m from rfl] at hL
  have hLl:L.length≤45:=by
   rw [hL]
   exact nums_le (headM m)
  clear hhd
  obtain ⟨D,hD⟩:∃ D,D=if m.kind=1 then m.dig else []:=⟨_,rfl⟩
  have hLD:(L++D).length≤77:=by
   rw [List.length_append,hD]
   split
   ·omega
   ·simp;omega
  have hgoal:msgB m=((((L++D)++numB m.pls.length)++m.pls.flatMap numI)++numB m.dgs.length)++m.dgs.flatMap id++listB m.kds:=by
   rw [hL,hD]
   unfold msgB msgH
   simp only [List.append_assoc]
  rw [hgoal]
  clear hgoal hL
  generalize listB m.kds=KB at i1 hkd ⊢
  repeat' (first|refine jx5 ?_|fail)
  refine aws_mid (fun _:Unit=>True) (fun _=>[(1,.o (.ptr 1 0 0)),(4,.o (.ptr 17 0 0))]) (fun _=>[(1,(1,some (.box 38 (mL m)))),(17,(1,some (.abs (wrA (L++D))))),(10,(0,none)),(86,(0,none))]) ?_ ?_
  ·by_cases q1:m.kind=1
   ·have d2:decide (m.kind=1)=true:=decide_eq_true q1
    rw [if_pos q1] at hD
    rw [hD]
    clear hD hLD
    as_aux_lemma=>
     repeat' (first|refine jx5 ?_|refine jy0 ?_ ?_|exact spF|refine spQ fun hq hq'=>?_|refine spN fun hn=>?_|fail)
     exact ⟨(),trivial,by exact knA,by exact knA⟩
   ·have d2:decide (m.kind=1)=false:=decide_eq_false q1
    rw [if_neg q1] at hD
    rw [hD,List.append_nil]
    clear hD hLD
    as_aux_lemma=>
     repeat' (first|refine jx5 ?_|refine jy0 ?_ ?_|exact spF|refine spQ fun hq hq'=>?_|refine spN fun hn=>?_|fail)
     exact ⟨(),trivial,by exact knA,by exact knA⟩
  rintro ⟨⟩ ν -
  clear hD
  generalize L++D=L1 at hLD ⊢
  have hL2:(L1++numB m.pls.length).length≤86:=by rw [List.length_append];omega
  repeat' (first|refine jx5 ?_|refine jy0 ?_ ?_|exact spF|refine spQ fun hq hq'=>?_|refine spN fun hn=>?_|fail)
  generalize L1++numB m.pls.length=L2 at hL2 ⊢
  refine aws_loopS [8,53,54,55,56,57,58,59,60,61] [17] (fun (x:Nat × List Nat)=>[(53,.p (.i x.1))]) (fun x=>[(17,(1,some (.abs (wrA x.2))))]) (fun x=>x.1≤m.pls.length∧x.2=L2++(m.pls.take x.1).flatMap numI) (fun x=>m.pls.length - x.1) (0,L2) ⟨Nat.zero_le _,(List.append_nil _).symm⟩ (by exact knA) (by exact knA) ?_
  rintro ⟨i,B⟩ β γ ⟨hi,hB⟩
  dsimp only at hi hB ⊢
  have hBl:B.length≤230:=by
   rw [hB,List.length_append]
   have:=nums_le (m.pls.take i)
   rw [List.length_take] at this
   omega
  by_cases hil:i < m.pls.length
  ·have d1:decide ((i:Int) < (m.pls.length:Int))=true:=decide_eq_true (by omega)
   have ei:(i:Int).toNat=i:=Int.toNat_natCast i
   have hft:=flat_take numI hil
   rw [show m.pls.getD i default=m.pls.getD (i:Int).toNat default by rw [ei]] at hft
   have hx:=hpls (m.pls.getD (i:Int).toNat default) (by rw [ei,getD_at hil];exact List.getElem_mem _)
   have hn:B++numI (m.pls.getD (i:Int).toNat default)=L2++(m.pls.take (i+1)).flatMap numI:=by rw [hft,hB,List.append_assoc]
   have hw:IntKind.u64.wrap (m.pls.getD (i:Int).toNat default)=m.pls.getD (i:Int).toNat default:=u64_in (by omega)
   clear hB hft
   as_aux_lemma=>
    repeat' (first|refine jx5 ?_|refine jy0 ?_ ?_|exact spF|refine spQ fun hq hq'=>?_|refine spN fun hn=>?_|fail)
    exact ⟨(i+1,B++numI (m.pls.getD (i:Int).toNat default)),_,by dsimp only;omega,⟨by dsimp only;omega,hn⟩,.refl,by exact frA⟩
  have d1:decide ((i:Int) < (m.pls.length:Int))=false:=decide_eq_false (by omega)
  obtain rfl:i=m.pls.length:=by omega
  rw [List.take_length] at hB
  rw [← hB]
  clear hB
  have hL3:(B++numB m.dgs.length).length≤240:=by rw [List.length_append];omega
  repeat' (first|refine jx5 ?_|refine jy0 ?_ ?_|exact spF|refine spQ fun hq hq'=>?_|refine spN fun hn=>?_|fail)
  generalize B++numB m.dgs.length=L3 at hL3 ⊢
  refine aws_loopS [10,71,72,73,74,75,76,77,78] [17,10] (fun (x:Nat × List Nat × Option MO)=>[(71,.p (.i x.1))]) (fun x=>[(17,(1,some (.abs (wrA x.2.1)))),(10,(x.1,x.2.2))]) (fun x=>x.1≤m.dgs.length∧x.2.1=L3++(m.dgs.take x.1).flatMap id) (fun x=>m.dgs.length - x.1) (0,L3,none) ⟨Nat.zero_le _,(List.append_nil _).symm⟩ (by exact knA) (by exact knA) ?_
  rintro ⟨j,E,m10⟩ β γ ⟨hj,hE⟩
  dsimp only at hj hE ⊢
  have hEl:E.length≤800:=by
   rw [hE,List.length_append]
   have:=digs_le (l:=m.dgs.take j) fun d hd=>hdg d (List.mem_of_mem_take hd)
   rw [List.length_take] at this
   omega
  by_cases hjl:j < m.dgs.length
  ·have d1:decide ((j:Int) < (m.dgs.length:Int))=true:=decide_eq_true (by omega)
   have ej:(j:Int).toNat=j:=Int.toNat_natCast j
   have hft:=flat_take (id:List Nat→List Nat) hjl
   rw [show m.dgs.getD j default=m.dgs.getD (j:Int).toNat default by rw [ej]] at hft
   have hx:(m.dgs.getD (j:Int).toNat default).length=32:=hdg _ (by rw [ej,getD_at hjl];exact List.getElem_mem _)
   have hn:E++m.dgs.getD (j:Int).toNat default=L3++(m.dgs.take (j+1)).flatMap id:=by rw [hft,hE,List.append_assoc];rfl
   clear hE hft
   as_aux_lemma=>
    repeat' (first|refine jx5 ?_|refine jy0 ?_ ?_|exact spF|refine spQ fun hq hq'=>?_|refine spN fun hn=>?_|fail)
    exact ⟨(j+1,E++m.dgs.getD (j:Int).toNat default,_),_,by dsimp only;omega,⟨by dsimp only;omega,hn⟩,.refl,by exact frA⟩
  have d1:decide ((j:Int) < (m.dgs.length:Int))=false:=decide_eq_false (by omega)
  obtain rfl:j=m.dgs.length:=by omega
  rw [List.take_length] at hE
  rw [← hE]
  clear hE
  have hB:OCAt Tryz.prog 90 [.o (.ptr 17 0 0)] [(17,(1,some (.abs (wrA E))))] [(86,0)] (.o (.osl 86 1 1 0 E.length)) [(17,(1,some (.abs (wrA E)))),(86,(2,some (.buf 5 1 (E.map bR))))]:=(bytesO_o 0 E (by omega)).lf (by decide) 17 86 0 (by decide)
  as_aux_lemma=>
   repeat' (first|refine jx5 ?_|refine jy0 ?_ ?_|exact spF|refine spQ fun hq hq'=>?_|refine spN fun hn=>?_|fail)
   exact rt2 rfl rfl (.one (finC_map rfl rfl rfl rfl)) rfl finS_p rfl
theorem mwrite_no (m:Msg) (h:MIn m) (hr:rightM m=false):PCall Tryz.prog 48 [mV m] (.tup [.one (.p (.sl 1 (([]:List Nat).map bR) false)),.one (.p (.i 3))]):=by
 refine pcall_of Tryz.func48 rfl (fun w0 F S0 M0=>?_)
 have h32:(m.dig.map bcD).length=32:=by rw [List.length_map];exact h.d32
 haveI i0:PC Tryz.prog 32 [mV m] True (.p (.b false)):=⟨fun _=>by have:=mright_w m h;rwa [hr] at this⟩
 have d0:(!false)=true:=rfl
 as_aux_lemma=>
  repeat' (first|refine jx5 ?_|refine jy0 ?_ ?_|exact spF|refine spQ fun hq hq'=>?_|refine spN fun hn=>?_|fail)
  exact rt2 rfl rfl (.one .nil) rfl finS_p rfl
end Go.Proofs.YtkgploeegbmofaaGreat.Wi
