/- messages in plain Lean: there and back, in one way alone -/
import Derived.Test.YtpgppgehhclfoaaGreatOBB68
import Derived.Test.YtpgppgehhclfoaaGreatOBD69
import Derived.Test.YtpgppgehhclfoaaGreatOBD78
import Derived.Test.YtpgppgehhclfoaaGreatOBB85
import Derived.Test.YtpgppgehhclfoaaGreatOBB66
namespace Go.Proofs.YtpgppgehhclfoaaGreat.Wi
open Go Go.RowKit Go.Aw Go.Aw.Cart Go.Aw.Tree Go.Proofs.YtpgppgehhclfoaaGreat.Ca Go.Proofs.YtpgppgehhclfoaaGreat.Rg
set_option linter.unusedVariables false
set_option linter.unusedSimpArgs false
theorem dig_back {d:List Nat} (h:d.length=32) (q:List Nat):digS (d++q,0)=(d,(q,0)):=by
 have e:takeS 32 (d++q,0)=(d,(q,0)):=by
  unfold takeS
  rw [if_neg (by simp),if_neg (by rw [List.length_append];omega)]
  dsimp only
  rw [List.take_append_of_le_length (by omega),List.drop_append_of_le_length (by omega),List.take_of_length_le (by omega),List.drop_of_length_le (by omega),List.nil_append]
 simp only [digS,bindS,pureS,e,h,if_true]
theorem hd_back {m:Msg} (h:MOk m) (q:List Nat):hdS ((headM m).flatMap numI++q,0)=((m.kind,m.frm,m.to,m.ses,m.part),(q,0)):=by
 have k1:=h.kind
 have k2:=h.frm
 have k3:=h.to
 have k4:=h.ses
 have k5:=h.part
 have e:(headM m).flatMap numI++q=numI m.kind++(numI m.frm++(numI m.to++(numI m.ses++(numI m.part++q)))):=by
  unfold headM
  simp only [List.flatMap_cons,List.flatMap_nil,List.append_nil,List.append_assoc]
 rw [e]
 simp only [hdS,bindS,pureS,smallI_back (n:=m.kind) (most:=7) (by omega) (by omega) (by decide),smallI_back (n:=m.frm) (most:=8) (by omega) (by omega) (by decide),smallI_back (n:=m.to) (most:=8) (by omega) (by omega) (by decide),smallI_back (n:=m.ses) (most:=1099511627776) (by omega) (by omega) (by decide),smallI_back (n:=m.part) (most:=7) (by omega) (by omega) (by decide)]
theorem lst_back {m:Msg} (h:MOk m) (hg:∀ d∈m.dgs,d.length=32) (q:List Nat):lstS (numB m.pls.length++(m.pls.flatMap numI++(numB m.dgs.length++(m.dgs.flatMap id++q))),0)=((m.pls,m.dgs),(q,0)):=by
 have k1:=h.pl
 have k2:=h.dl
 have a1:=all_back (P:=smallS 20) (enc:=numI) (L:=m.pls) (fun a ha q=>smallI_back (h.pls a ha).1 (h.pls a ha).2 (by decide) q) (numB m.dgs.length++(m.dgs.flatMap id++q)) m.pls.length (Nat.le_refl _)
 have a2:=all_back (P:=digS) (enc:=(id:List Nat→List Nat)) (L:=m.dgs) (fun a ha q=>dig_back (hg a ha) q) q m.dgs.length (Nat.le_refl _)
 rw [List.take_length,List.drop_length,List.flatMap_nil,List.nil_append] at a1 a2
 exact lst_at (small_back (x:=m.pls.length) (most:=16) (by omega) (by decide) _) a1 (small_back (x:=m.dgs.length) (most:=16) (by omega) (by decide) _) a2
theorem pre_back {m:Msg} (h:MOk m) (hd:m.dig.length=32) (hg:∀ d∈m.dgs,d.length=32) (q:List Nat):preS (msgH m++q,0)=({ m with kds:=[] },(q,0)):=by
 have e1:=hd_back h ((if m.kind=1 then m.dig else [])++(numB m.pls.length++(m.pls.flatMap numI++(numB m.dgs.length++(m.dgs.flatMap id++q)))))
 have e2:dgS m.kind ((if m.kind=1 then m.dig else [])++(numB m.pls.length++(m.pls.flatMap numI++(numB m.dgs.length++(m.dgs.flatMap id++q)))),0)=(m.dig,(numB m.pls.length++(m.pls.flatMap numI++(numB m.dgs.length++(m.dgs.flatMap id++q))),0)):=by
  unfold dgS
  by_cases k:m.kind=1
  ·rw [if_pos k,if_pos k];exact dig_back hd _
  ·rw [if_neg k,if_neg k]
   have:m.dig=zeroD:=by
    have:=h.own
    have e:m.dig=(ownM m).dig:=by rw [← this]
    rw [e];unfold ownM;dsimp only;rw [if_neg k]
   rw [this];rfl
 have e3:=lst_back h hg q
 have e:msgH m++q=(headM m).flatMap numI++((if m.kind=1 then m.dig else [])++(numB m.pls.length++(m.pls.flatMap numI++(numB m.dgs.length++(m.dgs.flatMap id++q))))):=by
  unfold msgH
  simp only [List.append_assoc]
 rw [e]
 simp only [preS,bindS,pureS,e1,e2,e3]
theorem kds_again (m:Msg):({ ({ m with kds:=[] }:Msg) with kds:=m.kds }:Msg)=m:=rfl
theorem mread_back {m:Msg} (h:MIn m) (hr:rightM m=true):readM (msgB m)=(m,0):=by
 have ok:=right_ok hr
 have e:=pre_back ok h.d32 (fun d hd=>(h.dg d hd).1) (listB m.kds)
 have eL:=readL_back (keys_iff.1 ok.kds) fun k hk=>(h.kd k hk).vec
 unfold readM
 rw [show msgB m=msgH m++listB m.kds from rfl,e]
 dsimp only
 rw [eL,kds_again,hr,if_neg (by simp)]
section
attribute [local irreducible] preS readL
end
section
attribute [local irreducible] preS readL readM listB msgH rightM
end
theorem msgB_ok {m:Msg} (h:MIn m):okB (msgB m):=by
 unfold msgB msgH
 refine okB_app (okB_app (okB_flat fun n _=>numB_ok _) (okB_app ?_ (okB_app (numB_ok _) (okB_app (okB_flat fun n _=>numB_ok _) (okB_app (numB_ok _) (okB_flat fun d hd=>(h.dg d hd).2)))))) (listB_ok fun k hk=>(h.kd k hk).key)
 split
 ·exact h.dok
 ·exact fun c hc=>by cases hc
theorem msgB_le {m:Msg} (h:MIn m) (hr:rightM m=true):(msgB m).length≤60000000:=by
 have ok:=right_ok hr
 have h1:=kdI_le ok.kds h.kd
 have h2:=nums_le (headM m)
 have h3:=nums_le m.pls
 have h4:=digs_le (l:=m.dgs) fun d hd=>(h.dg d hd).1
 have h5:=numB_le m.pls.length
 have h6:=numB_le m.dgs.length
 have h7:(if m.kind=1 then m.dig else []).length≤32:=by
  split
  ·rw [h.d32];exact Nat.le_refl _
  ·simp
 have h8:(headM m).length=5:=rfl
 have h9:=ok.pl
 have h10:=ok.dl
 unfold msgB msgH
 simp only [List.length_append]
 omega
end Go.Proofs.YtpgppgehhclfoaaGreat.Wi
namespace Go.Proofs.YtpgppgehhclfoaaGreat.Wi
open Go Go.RowKit Go.Aw Go.Aw.Cart Go.Aw.Tree Go.Proofs.YtpgppgehhclfoaaGreat.Ca Go.Proofs.YtpgppgehhclfoaaGreat.Rg
set_option linter.unusedVariables false
set_option linter.unusedSimpArgs false
set_option maxRecDepth 8000
set_option maxHeartbeats 4000000
structure MGo (m:Msg):Prop where
 d32:m.dig.length=32
 dok:okB m.dig
 pl:m.pls.length≤9223372036854775807
 dl:m.dgs.length≤9223372036854775807
 dg:∀ d∈m.dgs,d.length=32∧okB d
 kl:m.kds.length≤9223372036854775807
 kd:∀ k∈m.kds,KdI k
def greatM (m:Msg):Bool:=decide (60 < (m.pls.length:Int))||(decide (60 < (m.dgs.length:Int))||greatL m.kds)
theorem rvm_sl0 {es:Nat} {ex:Bool}:∀ μ X Y v,AC.holds μ X (.p (.sl es [] ex)) v→AC.holds μ Y (.p (.sl es [] ex)) v:=by
 rintro μ X Y v ⟨base,cap,h1,h2,h3,h4,h5⟩
 refine ⟨base,cap,h1,h2,h3,h4,?_⟩
 cases base with
 | none=>exact h5
 | some ad=>exact .inl rfl
theorem rvm_t2 {cs:List AC} {c:AC} (h:∀ x∈cs,∀ μ X Y v,AC.holds μ X x v→AC.holds μ Y x v) (k:∀ μ X Y v,AC.holds μ X c v→AC.holds μ Y c v):RV (.tup [.agg cs,.one c]):=by
 rintro μ X Y v ⟨arr,rfl,h1⟩
 refine ⟨arr,rfl,h1.1,fun i q x hq hx=>?_⟩
 have hh:=h1.2 i q x hq hx
 match i,hq with
 | 0,hq=>
  obtain rfl:=Option.some.inj hq
  obtain ⟨a2,rfl,h2⟩:=hh
  exact ⟨a2,rfl,h2.1,fun j y z hy hz=>h y (List.mem_of_getElem? hy) μ X Y z (h2.2 j y z hy hz)⟩
 | 1,hq=>
  obtain rfl:=Option.some.inj hq
  exact k μ X Y x hh
theorem rvm_none:RV (.tup [.agg (mL zeroM),.one (.p (.i 3))]):=by
 refine rvm_t2 (fun x hx=>?_) fun _ _ _ _ h=>h
 simp only [mL,zeroM,List.mem_append,List.mem_cons,List.mem_map,List.not_mem_nil,or_false] at hx
 rcases hx with rfl|rfl|rfl|rfl|rfl | ⟨n,_,rfl⟩|rfl|rfl|rfl
 all_goals first|exact rvm_sl0|exact fun _ _ _ _ h=>h
namespace V1
theorem lopC {C:Ctx} {o:Oper} {σ:St} {e:Eff} {ro:Nat→Bool} (h:LOp C o σ e ro:=by
  first|(apply lop_bz;(focus rfl);(focus exact inferInstance);(focus exact inferInstance);(focus exact inferInstance);(focus rfl);(focus rfl);(focus rfl))|(apply lop_lend1;(focus rfl);(focus exact inferInstance);(focus rfl);(focus rfl);(focus rfl);(focus exact (List.length_map ..).symm);(focus exact inferInstance);(focus first|exact True.intro|assumption|rfl|omega|((repeat' (first|assumption|refine And.intro ?_ ?_|omega|rfl));done)|fail);(focus exact rvm_none);(focus rfl))|exact T4.lopC|fail):LOp C o σ e ro:=h
section steps
variable {C:Ctx} {ops:Array Oper} {o:Oper} {rest:List Oper} {K:St→Prop} {σ:St} {e:Eff} {ro:Nat→Bool} {W:List (Nat × Nat)} {i:Nat}
theorem rnC {d:Nat} (hg:Guard ops σ o true:=by first|exact gd_n rfl rfl|exact gd_t rfl rfl rfl rfl|exact gd_t rfl rfl rfl (by assumption)) (hd:o.dst=some d:=by rfl) (h:LOp C o σ e ro:=by exact lopC) (hk:RunN C ops rest K (e.app (some d) σ)):RunN C ops (o::rest) K σ:=rn_any hg hd h hk
theorem rkC {d:Nat} (hg:Guard ops σ o true:=by first|exact gd_n rfl rfl|exact gd_t rfl rfl rfl rfl|exact gd_t rfl rfl rfl (by assumption)) (hd':o.dst=some d:=by rfl) (hd:dOk C o.dst=true:=by rfl) (h:LOp C o σ e ro:=by exact lopC) (hro:∀ x,ro x=true→okObj ops W i x=true:=by first|exact fun _=>ro_none|exact ro_one rfl|exact ro_k1 rfl|exact ro_one (by kernel_rfl)|exact ro_k1 (by kernel_rfl)|exact ro_kIn (by decide)) (hob:∀ p∈e.obj,(i,p.1)∈W:=by first|exact ob_none|exact ob_one (by decide)|decide) (hk:RunK C ops W (i+1) rest K (e.app (some d) σ)):RunK C ops W i (o::rest) K σ:=rk_wr hg hd' hd h hro hob hk
end steps
end V1
open V1
theorem great26_w (m:Msg) (h:MGo m):PCall Tryz.prog 10 [mV m] (.p (.b (greatM m))):=by
 refine pcall_of Tryz.func10 rfl (fun w0 F S0 M0=>?_)
 have h32:(m.dig.map bcD).length=32:=by rw [List.length_map];exact h.d32
 have c1:=pgreat_w m.kds false h.kl
 unfold greatM
 generalize greatL m.kds=G at c1 ⊢
 haveI:PC Tryz.prog 58 [.p (.sl 10 (m.kds.map kR) false)] True (.p (.b G)):=⟨fun _=>c1⟩
 cases d1:decide (60 < (m.pls.length:Int)) with
 | true=>
  rw [Bool.true_or]
  as_aux_lemma=>
   repeat' (first|refine jx5 ?_|refine jy0 ?_ ?_|exact spF|refine spQ fun hq hq'=>?_|refine spN fun hn=>?_|fail)
   exact rt1 rfl rfl finS_p rfl
 | false=>
  rw [Bool.false_or]
  cases d2:decide (60 < (m.dgs.length:Int)) with
  | true=>
   rw [Bool.true_or]
   as_aux_lemma=>
    repeat' (first|refine jx5 ?_|refine jy0 ?_ ?_|exact spF|refine spQ fun hq hq'=>?_|refine spN fun hn=>?_|fail)
    exact rt1 rfl rfl finS_p rfl
  | false=>
   rw [Bool.false_or]
   as_aux_lemma=>
    repeat' (first|refine jx5 ?_|refine jy0 ?_ ?_|exact spF|refine spQ fun hq hq'=>?_|refine spN fun hn=>?_|fail)
    exact rt1 rfl rfl finS_p rfl
end Go.Proofs.YtpgppgehhclfoaaGreat.Wi
namespace Go.Aw
set_option linter.unusedVariables false
section ops
variable {C:Ctx} {o:Oper} {σ:St}
end ops
end Go.Aw
namespace Go.Proofs.YtpgppgehhclfoaaGreat.Wi
open Go Go.RowKit Go.Aw Go.Aw.Cart Go.Aw.Tree Go.Proofs.YtpgppgehhclfoaaGreat.Ca Go.Proofs.YtpgppgehhclfoaaGreat.Rg
set_option linter.unusedVariables false
set_option linter.unusedSimpArgs false
set_option maxRecDepth 8000
set_option maxHeartbeats 4000000
theorem ent_m {p0 p1 p2 p3 p4 x y z x' y' z':PVal} {d:List Nat} (h1:PE x x') (h2:PE y y') (h3:PE z z'):Ent1 (.a (.p p0::.p p1::.p p2::.p p3::.p p4::(d.map bcD++[.p x,.p y,.p z]))) (.a (.p p0::.p p1::.p p2::.p p3::.p p4::(d.map bcD++[.p x',.p y',.p z']))):=by
 have e:∀ a b c:PVal,(.p p0::.p p1::.p p2::.p p3::.p p4::(d.map bcD++[.p a,.p b,.p c]):List AC)=(p0::p1::p2::p3::p4::(d.map (fun n:Nat=>PVal.v (.int .u8 n))++[a,b,c])).map .p:=fun a b c=>by
  simp only [List.map_cons,List.map_append,List.map_map,List.map_nil]
  rfl
 rw [e,e]
 refine Ent1.cells (.cons .refl (.cons .refl (.cons .refl (.cons .refl (.cons .refl ?_)))))
 induction d with
 | nil=>exact .cons h1 (.cons h2 (.cons h3 .nil))
 | cons a d ih=>
  refine .cons .refl (ih fun a b c=>?_)
  simp only [List.map_cons,List.map_append,List.map_map,List.map_nil]
  rfl
theorem zeroD_ok:okB zeroD:=fun c hc=>by rw [List.eq_of_mem_replicate hc];decide
end Go.Proofs.YtpgppgehhclfoaaGreat.Wi
namespace Go.Proofs.YtpgppgehhclfoaaGreat.Wi
open Go Go.RowKit Go.Aw Go.Aw.Cart Go.Aw.Tree Go.Proofs.YtpgppgehhclfoaaGreat.Ca Go.Proofs.YtpgppgehhclfoaaGreat.Rg
set_option linter.unusedVariables false
set_option linter.unusedSimpArgs false
def nodesR (m:Msg):Bool:=decide (1≤m.frm∧m.frm≤8∧1≤m.to∧m.to≤8∧m.frm≠m.to)
def headR (m:Msg):Bool:=if m.kind=7 then decide (m.ses=0∧m.part=0) else decide (1≤m.ses∧m.ses≤1099511627776∧0≤m.part∧m.part≤7)
def zeR (m:Msg):Bool:=decide (m.dig=zeroD)
def plR (m:Msg):Bool:=decide ((m.pls.length:Int)=0)
def dgR (m:Msg):Bool:=decide ((m.dgs.length:Int)=0)
def ctR (m:Msg):Bool:=decide ((m.kds.length:Int)=0)
theorem len0 {α:Type} {l:List α}:(l.length:Int)=0↔l=[]:=by
 rw [show ((l.length:Int)=0)↔l.length=0 by omega,List.length_eq_zero_iff]
def bodyR (m:Msg):Bool:=
 if m.kind=1 then plR m&&(dgR m&&ctR m)
 else if m.kind=2 then zeR m&&(dgR m&&(ctR m&&lvlF m.pls 1))
 else if m.kind=3∨m.kind=6 then zeR m&&(dgR m&&(lvlF m.pls 2&&withinM m))
 else if m.kind=4 then zeR m&&(plR m&&(dgR m&&ctR m))
 else if m.kind=5 then zeR m&&(ctR m&&((lvlF m.pls 0||lvlF m.pls 1)&&decide ((m.dgs.length:Int)=4 * m.pls.length)))
 else if m.kind=7 then zeR m&&(plR m&&(dgR m&&(decide ((m.kds.length:Int)=1)&&(keysF m.kds&&keyR (m.kds.getD 0 default).1))))
 else false
theorem own_iff (m:Msg):sameM m (ownM m)=true↔(m.kind=7→m.ses=0∧m.part=0)∧(m.kind≠1→m.dig=zeroD)∧(¬ (m.kind=2∨m.kind=3∨m.kind=6∨m.kind=5)→m.pls=[])∧(m.kind≠5→m.dgs=[])∧(¬ (m.kind=3∨m.kind=6∨m.kind=7)→m.kds=[]):=by
 rw [sameM_iff]
 obtain ⟨k,f,t,s,p,d,P,G,K⟩:=m
 unfold ownM
 rw [Msg.mk.injEq]
 dsimp only
 constructor
 ·rintro ⟨- , - , -,h4,h5,h6,h7,h8,h9⟩
  refine ⟨fun h=>?_,fun h=>?_,fun h=>?_,fun h=>?_,fun h=>?_⟩
  ·rw [if_pos h] at h4 h5;exact ⟨h4,h5⟩
  ·rw [if_neg h] at h6;exact h6
  ·rw [if_neg h] at h7;exact h7
  ·rw [if_neg h] at h8;exact h8
  ·rw [if_neg h] at h9;exact h9
 ·rintro ⟨h1,h2,h3,h4,h5⟩
  refine ⟨rfl,rfl,rfl,?_,?_,?_,?_,?_,?_⟩
  ·split
   ·rename_i q;exact (h1 q).1
   ·rfl
  ·split
   ·rename_i q;exact (h1 q).2
   ·rfl
  ·split
   ·rfl
   ·rename_i q;exact h2 q
  ·split
   ·rfl
   ·rename_i q;exact h3 q
  ·split
   ·rfl
   ·rename_i q;exact h4 q
  ·split
   ·rfl
   ·rename_i q;exact h5 q
theorem ses_iff (s p:Int):sesF s p=decide (1≤s∧s≤1099511627776∧0≤p∧p≤7):=by
 unfold sesF
 rw [Bool.eq_iff_iff]
 simp only [Bool.and_eq_true,decide_eq_true_iff]
 omega
theorem right_ref (m:Msg):rightM m=(nodesR m&&(headR m&&bodyR m)):=by
 rw [Bool.eq_iff_iff]
 unfold rightM
 rw [ses_iff]
 unfold nodesR headR bodyM bodyR zeR plR dgR ctR
 simp only [Bool.and_eq_true,own_iff,Bool.or_eq_true,decide_eq_true_iff,len0]
 by_cases k1:m.kind=1
 ·simp only [k1]
  simp
  constructor
  ·rintro ⟨⟨a1,a2,a3,a4⟩,⟨b1,b2⟩,⟨c1,c2⟩,c3,c4,c5,c6⟩
   exact ⟨⟨b1,b2,c1,c2,c3⟩,⟨a1,a2,a3,a4⟩,c4,c5,c6⟩
  ·rintro ⟨⟨b1,b2,c1,c2,c3⟩,⟨a1,a2,a3,a4⟩,c4,c5,c6⟩
   exact ⟨⟨a1,a2,a3,a4⟩,⟨b1,b2⟩,⟨c1,c2⟩,c3,c4,c5,c6⟩
 by_cases k2:m.kind=2
 ·simp only [k2]
  simp
  constructor
  ·rintro ⟨l,⟨a1,a2,a3,a4⟩,⟨b1,b2⟩,⟨c1,c2⟩,c3,c4,c5,c6⟩
   exact ⟨⟨b1,b2,c1,c2,c3⟩,⟨a1,a2,a3,a4⟩,c4,c5,c6,l⟩
  ·rintro ⟨⟨b1,b2,c1,c2,c3⟩,⟨a1,a2,a3,a4⟩,c4,c5,c6,l⟩
   exact ⟨l,⟨a1,a2,a3,a4⟩,⟨b1,b2⟩,⟨c1,c2⟩,c3,c4,c5,c6⟩
 by_cases k3:m.kind=3∨m.kind=6
 ·have e7:m.kind≠7:=by omega
  have e4:m.kind≠4:=by omega
  have e5:m.kind≠5:=by omega
  rw [if_neg (by omega),if_neg k2,if_pos k3,if_neg k1,if_neg k2,if_pos k3,if_neg e7]
  simp only [Bool.and_eq_true,decide_eq_true_iff,len0]
  constructor
  ·rintro ⟨⟨l,w⟩,s,b,c,d,e,f,g,h,i⟩
   exact ⟨⟨b.1,b.2,c.1,c.2,d⟩,s.resolve_left e7,f k1,h e5,l,w⟩
  ·rintro ⟨⟨b1,b2,c1,c2,c3⟩,a,c4,c5,l,w⟩
   exact ⟨⟨l,w⟩,.inr a,⟨b1,b2⟩,⟨c1,c2⟩,c3,fun q=>absurd q e7,fun _=>c4,fun q=>absurd (by omega) q,fun _=>c5,fun q=>absurd (by omega) q⟩
 by_cases k4:m.kind=4
 ·simp only [k4]
  simp
  constructor
  ·rintro ⟨⟨a1,a2,a3,a4⟩,⟨b1,b2⟩,⟨c1,c2⟩,c3,c4,c5,c6,c7⟩
   exact ⟨⟨b1,b2,c1,c2,c3⟩,⟨a1,a2,a3,a4⟩,c4,c5,c6,c7⟩
  ·rintro ⟨⟨b1,b2,c1,c2,c3⟩,⟨a1,a2,a3,a4⟩,c4,c5,c6,c7⟩
   exact ⟨⟨a1,a2,a3,a4⟩,⟨b1,b2⟩,⟨c1,c2⟩,c3,c4,c5,c6,c7⟩
 by_cases k5:m.kind=5
 ·simp only [k5]
  simp
  constructor
  ·rintro ⟨⟨l,e⟩,⟨a1,a2,a3,a4⟩,⟨b1,b2⟩,⟨c1,c2⟩,c3,c4,c5⟩
   exact ⟨⟨b1,b2,c1,c2,c3⟩,⟨a1,a2,a3,a4⟩,c4,c5,l,e⟩
  ·rintro ⟨⟨b1,b2,c1,c2,c3⟩,⟨a1,a2,a3,a4⟩,c4,c5,l,e⟩
   exact ⟨⟨l,e⟩,⟨a1,a2,a3,a4⟩,⟨b1,b2⟩,⟨c1,c2⟩,c3,c4,c5⟩
 by_cases k7:m.kind=7
 ·simp only [k7]
  simp
  constructor
  ·rintro ⟨⟨l,e,g⟩,⟨b1,b2⟩,⟨c1,c2⟩,c3,⟨a1,a2⟩,c4,c5,c6⟩
   exact ⟨⟨b1,b2,c1,c2,c3⟩,⟨a1,a2⟩,c4,c5,c6,l,e,g⟩
  ·rintro ⟨⟨b1,b2,c1,c2,c3⟩,⟨a1,a2⟩,c4,c5,c6,l,e,g⟩
   exact ⟨⟨l,e,g⟩,⟨b1,b2⟩,⟨c1,c2⟩,c3,⟨a1,a2⟩,c4,c5,c6⟩
 ·rw [if_neg (by omega),if_neg k2,if_neg k3,if_neg k5,if_neg k7,if_neg k1,if_neg k2,if_neg k3,if_neg k4,if_neg k5,if_neg k7,if_neg k7]
  constructor
  ·rintro ⟨h , -⟩;cases h
  ·rintro ⟨- , -,h⟩;cases h
end Go.Proofs.YtpgppgehhclfoaaGreat.Wi
