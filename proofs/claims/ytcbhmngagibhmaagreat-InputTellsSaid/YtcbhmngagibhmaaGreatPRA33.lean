/- messages in plain Lean: there and back, in one way alone -/
import Derived.Test.YtcbhmngagibhmaaGreatPRA31
import Derived.Test.YtcbhmngagibhmaaGreatPRA32
import Derived.Test.YtcbhmngagibhmaaGreatPRA11
import Derived.Test.YtcbhmngagibhmaaGreatPRA24
import Derived.Test.YtcbhmngagibhmaaGreatPRA18
import Derived.Test.YtcbhmngagibhmaaGreatPRA17
namespace Go.Proofs.YtcbhmngagibhmaaGreat.Wi
open Go Go.RowKit Go.Aw Go.Aw.Cart Go.Aw.Tree Go.Proofs.YtcbhmngagibhmaaGreat.Ca Go.Proofs.YtcbhmngagibhmaaGreat.Rg
set_option linter.unusedVariables false
set_option linter.unusedSimpArgs false
theorem dig_back {d:List Nat} (h:d.length=32) (q:List Nat):digS (d++q,0)=(d,(q,0)):=by
 have e:takeS 32 (d++q,0)=(d,(q,0)):=by
  unfold takeS
  rw [if_neg (by simp),if_neg (by rw [List.length_append];omega)]
  dsimp only
  rw [List.take_append_of_le_length (by omega),List.drop_append_of_le_length (by omega),List.take_of_length_le (by omega),List.drop_of_length_le (by omega),List.nil_append]
 simp only [digS,bindS,pureS,e,h,if_true]
theorem hd_back {m:Msg} (h:MOk m) (q:List Nat):hdS ((headM m).flatMap numI++q,0)=((m.kind,m.frm,m.to,m.ses,m.part),(q,0)):=by
 have k1:=h.kind
 have k2:=h.frm
 have k3:=h.to
 have k4:=h.ses
 have k5:=h.part
 have e:(headM m).flatMap numI++q=numI m.kind++(numI m.frm++(numI m.to++(numI m.ses++(numI m.part++q)))):=by
  unfold headM
  simp only [List.flatMap_cons,List.flatMap_nil,List.append_nil,List.append_assoc]
 rw [e]
 simp only [hdS,bindS,pureS,smallI_back (n:=m.kind) (most:=7) (by omega) (by omega) (by decide),smallI_back (n:=m.frm) (most:=8) (by omega) (by omega) (by decide),smallI_back (n:=m.to) (most:=8) (by omega) (by omega) (by decide),smallI_back (n:=m.ses) (most:=1099511627776) (by omega) (by omega) (by decide),smallI_back (n:=m.part) (most:=7) (by omega) (by omega) (by decide)]
theorem lst_back {m:Msg} (h:MOk m) (hg:∀ d∈m.dgs,d.length=32) (q:List Nat):lstS (numB m.pls.length++(m.pls.flatMap numI++(numB m.dgs.length++(m.dgs.flatMap id++q))),0)=((m.pls,m.dgs),(q,0)):=by
 have k1:=h.pl
 have k2:=h.dl
 have a1:=all_back (P:=smallS 20) (enc:=numI) (L:=m.pls) (fun a ha q=>smallI_back (h.pls a ha).1 (h.pls a ha).2 (by decide) q) (numB m.dgs.length++(m.dgs.flatMap id++q)) m.pls.length (Nat.le_refl _)
 have a2:=all_back (P:=digS) (enc:=(id:List Nat→List Nat)) (L:=m.dgs) (fun a ha q=>dig_back (hg a ha) q) q m.dgs.length (Nat.le_refl _)
 rw [List.take_length,List.drop_length,List.flatMap_nil,List.nil_append] at a1 a2
 exact lst_at (small_back (x:=m.pls.length) (most:=16) (by omega) (by decide) _) a1 (small_back (x:=m.dgs.length) (most:=16) (by omega) (by decide) _) a2
theorem pre_back {m:Msg} (h:MOk m) (hd:m.dig.length=32) (hg:∀ d∈m.dgs,d.length=32) (q:List Nat):preS (msgH m++q,0)=({ m with kds:=[] },(q,0)):=by
 have e1:=hd_back h ((if m.kind=1 then m.dig else [])++(numB m.pls.length++(m.pls.flatMap numI++(numB m.dgs.length++(m.dgs.flatMap id++q)))))
 have e2:dgS m.kind ((if m.kind=1 then m.dig else [])++(numB m.pls.length++(m.pls.flatMap numI++(numB m.dgs.length++(m.dgs.flatMap id++q)))),0)=(m.dig,(numB m.pls.length++(m.pls.flatMap numI++(numB m.dgs.length++(m.dgs.flatMap id++q))),0)):=by
  unfold dgS
  by_cases k:m.kind=1
  ·rw [if_pos k,if_pos k];exact dig_back hd _
  ·rw [if_neg k,if_neg k]
   have:m.dig=zeroD:=by
    have:=h.own
    have e:m.dig=(ownM m).dig:=by rw [← this]
    rw [e];unfold ownM;dsimp only;rw [if_neg k]
   rw [this];rfl
 have e3:=lst_back h hg q
 have e:msgH m++q=(headM m).flatMap numI++((if m.kind=1 then m.dig else [])++(numB m.pls.length++(m.pls.flatMap numI++(numB m.dgs.length++(m.dgs.flatMap id++q))))):=by
  unfold msgH
  simp only [List.append_assoc]
 rw [e]
 simp only [preS,bindS,pureS,e1,e2,e3]
theorem kds_again (m:Msg):({ ({ m with kds:=[] }:Msg) with kds:=m.kds }:Msg)=m:=rfl
theorem mread_back {m:Msg} (h:MIn m) (hr:rightM m=true):readM (msgB m)=(m,0):=by
 have ok:=right_ok hr
 have e:=pre_back ok h.d32 (fun d hd=>(h.dg d hd).1) (listB m.kds)
 have eL:=readL_back (keys_iff.1 ok.kds) fun k hk=>(h.kd k hk).vec
 unfold readM
 rw [show msgB m=msgH m++listB m.kds from rfl,e]
 dsimp only
 rw [eL,kds_again,hr,if_neg (by simp)]
theorem readM_cases (b:List Nat):((readM b).1=zeroM∧(readM b).2=3)∨((preS (b,0)).2.2=0∧(readL (preS (b,0)).2.1).2=0∧rightM { (preS (b,0)).1 with kds:=(readL (preS (b,0)).2.1).1 }=true∧readM b=({ (preS (b,0)).1 with kds:=(readL (preS (b,0)).2.1).1 },0)):=by
 unfold readM
 split
 ·exact .inl ⟨rfl,rfl⟩
 ·rename_i hn
  refine .inr ⟨?_,?_,?_,rfl⟩
  ·exact Decidable.not_not.1 fun q=>hn (.inl q)
  ·exact Decidable.not_not.1 fun q=>hn (.inr (.inl q))
  ·cases q:rightM { (preS (b,0)).1 with kds:=(readL (preS (b,0)).2.1).1 } with
   | true=>rfl
   | false=>exact absurd (.inr (.inr q)) hn
section
attribute [local irreducible] preS readL
theorem zeroM_in:MIn zeroM:=⟨rfl,fun c hc=>by rw [List.eq_of_mem_replicate hc];decide,by decide,by decide,fun d hd=>(by cases hd),by decide,fun d hd=>(by cases hd),fun d hd=>(by cases hd)⟩
theorem pre_in {b:List Nat} (hb:okB b) (hl:b.length≤1000000000):(preS (b,0)).1.dig.length=32∧okB (preS (b,0)).1.dig∧(preS (b,0)).1.pls.length≤16∧(preS (b,0)).1.dgs.length≤16∧∀ d∈(preS (b,0)).1.dgs,d.length=32∧okB d:=by
 have o0:rdOk (b,0):=⟨hb,hl⟩
 obtain ⟨x,r1,h1⟩:=pr_ex (hdS (b,0))
 have o1:rdOk r1:=by have:=par_hd.rd o0;rwa [h1] at this
 obtain ⟨d,r2,h2⟩:=pr_ex (dgS x.1 r1)
 have o2:rdOk r2:=by have:=(par_dg x.1).rd o1;rwa [h2] at this
 have f1:=dgS_fit x.1 r1 o1
 rw [h2] at f1
 have f2:=lst_fit r2 o2
 have e:preS (b,0)=(⟨x.1,x.2.1,x.2.2.1,x.2.2.2.1,x.2.2.2.2,d,(lstS r2).1.1,(lstS r2).1.2,[]⟩,(lstS r2).2):=by
  simp only [preS,bindS,pureS,h1,h2]
 rw [e]
 exact ⟨f1.1,f1.2,f2.1,f2.2.1,f2.2.2⟩
theorem readM_in {b:List Nat} (hb:okB b) (hl:b.length≤1000000000):MIn (readM b).1:=by
 rcases readM_cases b with ⟨k , -⟩ | ⟨- , - , -,k4⟩
 ·rw [k];exact zeroM_in
 ·rw [k4]
  obtain ⟨f1,f2,f3,f4,f5⟩:=pre_in hb hl
  have suf:=par_pre.suf (b,0)
  have hbr:okB (preS (b,0)).2.1:=fun c hc=>hb c (suf.subset hc)
  have hlr:(preS (b,0)).2.1.length≤1000000000:=Nat.le_trans suf.length_le hl
  obtain ⟨-,g1,g2⟩:=readL_ok (preS (b,0)).2.1 hbr hlr
  exact ⟨f1,f2,by show (preS (b,0)).1.pls.length≤_;omega,by show (preS (b,0)).1.dgs.length≤_;omega,f5,by show (readL (preS (b,0)).2.1).1.length≤_;omega,fun k hk=>(g2 k hk).1,fun k hk=>by have:=(g2 k hk).2;omega⟩
end
section
attribute [local irreducible] preS readL readM listB msgH rightM
end
theorem msgB_ok {m:Msg} (h:MIn m):okB (msgB m):=by
 unfold msgB msgH
 refine okB_app (okB_app (okB_flat fun n _=>numB_ok _) (okB_app ?_ (okB_app (numB_ok _) (okB_app (okB_flat fun n _=>numB_ok _) (okB_app (numB_ok _) (okB_flat fun d hd=>(h.dg d hd).2)))))) (listB_ok fun k hk=>(h.kd k hk).key)
 split
 ·exact h.dok
 ·exact fun c hc=>by cases hc
end Go.Proofs.YtcbhmngagibhmaaGreat.Wi
namespace Go.Proofs.YtcbhmngagibhmaaGreat.Wi
open Go Go.RowKit Go.Aw Go.Aw.Cart Go.Aw.Tree Go.Proofs.YtcbhmngagibhmaaGreat.Ca Go.Proofs.YtcbhmngagibhmaaGreat.Rg
set_option linter.unusedVariables false
set_option linter.unusedSimpArgs false
set_option maxRecDepth 8000
set_option maxHeartbeats 4000000
structure MGo (m:Msg):Prop where
 d32:m.dig.length=32
 dok:okB m.dig
 pl:m.pls.length≤9223372036854775807
 dl:m.dgs.length≤9223372036854775807
 dg:∀ d∈m.dgs,d.length=32∧okB d
 kl:m.kds.length≤9223372036854775807
 kd:∀ k∈m.kds,KdI k
def greatM (m:Msg):Bool:=decide (60 < (m.pls.length:Int))||(decide (60 < (m.dgs.length:Int))||greatL m.kds)
theorem min_of {m:Msg} (h:MGo m) (hg:greatM m=false):MIn m∧m.pls.length≤60∧m.dgs.length≤60∧greatL m.kds=false:=by
 unfold greatM at hg
 rw [Bool.or_eq_false_iff,Bool.or_eq_false_iff,decide_eq_false_iff_not,decide_eq_false_iff_not] at hg
 obtain ⟨h1,h2,h3⟩:=hg
 obtain ⟨g1,g2⟩:=greatL_no h3
 exact ⟨⟨h.d32,h.dok,by omega,by omega,h.dg,by omega,h.kd,fun k hk=>by have:=(g2 k hk).2;omega⟩,by omega,by omega,h3⟩
theorem rvm_sl0 {es:Nat} {ex:Bool}:∀ μ X Y v,AC.holds μ X (.p (.sl es [] ex)) v→AC.holds μ Y (.p (.sl es [] ex)) v:=by
 rintro μ X Y v ⟨base,cap,h1,h2,h3,h4,h5⟩
 refine ⟨base,cap,h1,h2,h3,h4,?_⟩
 cases base with
 | none=>exact h5
 | some ad=>exact .inl rfl
theorem rvm_t2 {cs:List AC} {c:AC} (h:∀ x∈cs,∀ μ X Y v,AC.holds μ X x v→AC.holds μ Y x v) (k:∀ μ X Y v,AC.holds μ X c v→AC.holds μ Y c v):RV (.tup [.agg cs,.one c]):=by
 rintro μ X Y v ⟨arr,rfl,h1⟩
 refine ⟨arr,rfl,h1.1,fun i q x hq hx=>?_⟩
 have hh:=h1.2 i q x hq hx
 match i,hq with
 | 0,hq=>
  obtain rfl:=Option.some.inj hq
  obtain ⟨a2,rfl,h2⟩:=hh
  exact ⟨a2,rfl,h2.1,fun j y z hy hz=>h y (List.mem_of_getElem? hy) μ X Y z (h2.2 j y z hy hz)⟩
 | 1,hq=>
  obtain rfl:=Option.some.inj hq
  exact k μ X Y x hh
theorem rvm_none:RV (.tup [.agg (mL zeroM),.one (.p (.i 3))]):=by
 refine rvm_t2 (fun x hx=>?_) fun _ _ _ _ h=>h
 simp only [mL,zeroM,List.mem_append,List.mem_cons,List.mem_map,List.not_mem_nil,or_false] at hx
 rcases hx with rfl|rfl|rfl|rfl|rfl | ⟨n,_,rfl⟩|rfl|rfl|rfl
 all_goals first|exact rvm_sl0|exact fun _ _ _ _ h=>h
namespace V1
theorem lopC {C:Ctx} {o:Oper} {σ:St} {e:Eff} {ro:Nat→Bool} (h:LOp C o σ e ro:=by
  first|(apply lop_bz;(focus rfl);(focus exact inferInstance);(focus exact inferInstance);(focus exact inferInstance);(focus rfl);(focus rfl);(focus rfl))|(apply lop_lend1;(focus rfl);(focus exact inferInstance);(focus rfl);(focus rfl);(focus rfl);(focus exact (List.length_map ..).symm);(focus exact inferInstance);(focus first|exact True.intro|assumption|rfl|omega|((repeat' (first|assumption|refine And.intro ?_ ?_|omega|rfl));done)|fail);(focus exact rvm_none);(focus rfl))|exact T4.lopC|fail):LOp C o σ e ro:=h
section steps
variable {C:Ctx} {ops:Array Oper} {o:Oper} {rest:List Oper} {K:St→Prop} {σ:St} {e:Eff} {ro:Nat→Bool} {W:List (Nat × Nat)} {i:Nat}
theorem rnC {d:Nat} (hg:Guard ops σ o true:=by first|exact gd_n rfl rfl|exact gd_t rfl rfl rfl rfl|exact gd_t rfl rfl rfl (by assumption)) (hd:o.dst=some d:=by rfl) (h:LOp C o σ e ro:=by exact lopC) (hk:RunN C ops rest K (e.app (some d) σ)):RunN C ops (o::rest) K σ:=rn_any hg hd h hk
theorem rkC {d:Nat} (hg:Guard ops σ o true:=by first|exact gd_n rfl rfl|exact gd_t rfl rfl rfl rfl|exact gd_t rfl rfl rfl (by assumption)) (hd':o.dst=some d:=by rfl) (hd:dOk C o.dst=true:=by rfl) (h:LOp C o σ e ro:=by exact lopC) (hro:∀ x,ro x=true→okObj ops W i x=true:=by first|exact fun _=>ro_none|exact ro_one rfl|exact ro_k1 rfl|exact ro_one (by kernel_rfl)|exact ro_k1 (by kernel_rfl)|exact ro_kIn (by decide)) (hob:∀ p∈e.obj,(i,p.1)∈W:=by first|exact ob_none|exact ob_one (by decide)|decide) (hk:RunK C ops W (i+1) rest K (e.app (some d) σ)):RunK C ops W i (o::rest) K σ:=rk_wr hg hd' hd h hro hob hk
end steps
end V1
open V1
theorem great26_w (m:Msg) (h:MGo m):PCall Tryz.prog 9 [mV m] (.p (.b (greatM m))):=by
 refine pcall_of Tryz.func9 rfl (fun w0 F S0 M0=>?_)
 have h32:(m.dig.map bcD).length=32:=by rw [List.length_map];exact h.d32
 have c1:=pgreat_w m.kds false h.kl
 unfold greatM
 generalize greatL m.kds=G at c1 ⊢
 haveI:PC Tryz.prog 48 [.p (.sl 10 (m.kds.map kR) false)] True (.p (.b G)):=⟨fun _=>c1⟩
 cases d1:decide (60 < (m.pls.length:Int)) with
 | true=>
  rw [Bool.true_or]
  as_aux_lemma=>
   repeat' (first|refine jx5 ?_|refine jy0 ?_ ?_|exact spF|refine spQ fun hq hq'=>?_|refine spN fun hn=>?_|fail)
   exact rt1 rfl rfl finS_p rfl
 | false=>
  rw [Bool.false_or]
  cases d2:decide (60 < (m.dgs.length:Int)) with
  | true=>
   rw [Bool.true_or]
   as_aux_lemma=>
    repeat' (first|refine jx5 ?_|refine jy0 ?_ ?_|exact spF|refine spQ fun hq hq'=>?_|refine spN fun hn=>?_|fail)
    exact rt1 rfl rfl finS_p rfl
  | false=>
   rw [Bool.false_or]
   as_aux_lemma=>
    repeat' (first|refine jx5 ?_|refine jy0 ?_ ?_|exact spF|refine spQ fun hq hq'=>?_|refine spN fun hn=>?_|fail)
    exact rt1 rfl rfl finS_p rfl
end Go.Proofs.YtcbhmngagibhmaaGreat.Wi
namespace Go.Aw
set_option linter.unusedVariables false
section ops
variable {C:Ctx} {o:Oper} {σ:St}
end ops
end Go.Aw
namespace Go.Proofs.YtcbhmngagibhmaaGreat.Wi
open Go Go.RowKit Go.Aw Go.Aw.Cart Go.Aw.Tree Go.Proofs.YtcbhmngagibhmaaGreat.Ca Go.Proofs.YtcbhmngagibhmaaGreat.Rg
set_option linter.unusedVariables false
set_option linter.unusedSimpArgs false
set_option maxRecDepth 8000
set_option maxHeartbeats 4000000
theorem ent_m {p0 p1 p2 p3 p4 x y z x' y' z':PVal} {d:List Nat} (h1:PE x x') (h2:PE y y') (h3:PE z z'):Ent1 (.a (.p p0::.p p1::.p p2::.p p3::.p p4::(d.map bcD++[.p x,.p y,.p z]))) (.a (.p p0::.p p1::.p p2::.p p3::.p p4::(d.map bcD++[.p x',.p y',.p z']))):=by
 have e:∀ a b c:PVal,(.p p0::.p p1::.p p2::.p p3::.p p4::(d.map bcD++[.p a,.p b,.p c]):List AC)=(p0::p1::p2::p3::p4::(d.map (fun n:Nat=>PVal.v (.int .u8 n))++[a,b,c])).map .p:=fun a b c=>by
  simp only [List.map_cons,List.map_append,List.map_map,List.map_nil]
  rfl
 rw [e,e]
 refine Ent1.cells (.cons .refl (.cons .refl (.cons .refl (.cons .refl (.cons .refl ?_)))))
 induction d with
 | nil=>exact .cons h1 (.cons h2 (.cons h3 .nil))
 | cons a d ih=>
  refine .cons .refl (ih fun a b c=>?_)
  simp only [List.map_cons,List.map_append,List.map_map,List.map_nil]
  rfl
end Go.Proofs.YtcbhmngagibhmaaGreat.Wi
namespace Go.Proofs.YtcbhmngagibhmaaGreat.Wi
open Go Go.RowKit Go.Aw Go.Aw.Cart Go.Aw.Tree Go.Proofs.YtcbhmngagibhmaaGreat.Ca Go.Proofs.YtcbhmngagibhmaaGreat.Rg
set_option linter.unusedVariables false
set_option linter.unusedSimpArgs false
set_option maxRecDepth 8000
set_option maxHeartbeats 4000000
theorem many_all_eq {α:Type} {P:RS→α × RS} (hP:Par P) (r:RS):∀ n,(manyS P n r).2.2=0→allS P n r=manyS P n r
 | 0,_=>rfl
 | n+1,h=>by
  rw [manyS] at h ⊢
  by_cases q:(manyS P n r).2.2=0
  ·rw [if_pos q] at h ⊢
   have ih:=many_all_eq hP r n q
   show bindS (allS P n) _ r=_
   simp only [bindS,pureS,ih]
  ·rw [if_neg q] at h
   exact absurd h q
theorem many_all_bad {α:Type} {P:RS→α × RS} (hP:Par P) (r:RS):∀ n,(manyS P n r).2.2≠0→(allS P n r).2.2≠0
 | 0,h=>h
 | n+1,h=>by
  rw [manyS] at h
  have key:∀ q:RS,q.2≠0→(P q).2.2≠0:=fun q hq=>by rw [hP.bad q hq];exact hq
  show (bindS (allS P n) (fun xs=>bindS P fun a=>pureS (xs++[a])) r).2.2≠0
  by_cases q:(manyS P n r).2.2=0
  ·rw [if_pos q] at h
   have ih:=many_all_eq hP r n q
   simp only [bindS,pureS,ih]
   exact h
  ·have ih:=many_all_bad hP r n q
   simp only [bindS,pureS]
   exact key _ ih
def lstR:RS→(List Int × List (List Nat)) × RS:=bindS (smallS 16) fun n=>bindS (manyS (smallS 20) n.toNat) fun P=>bindS (smallS 16) fun k=>bindS (manyS digS k.toNat) fun G=>pureS (P,G)
theorem lstR_at {r r1 r2 r3 r4:RS} {n k:Nat} {P:List Int} {G:List (List Nat)} (h1:smallS 16 r=((n:Int),r1)) (h2:manyS (smallS 20) n r1=(P,r2)) (h3:smallS 16 r2=((k:Int),r3)) (h4:manyS digS k r3=(G,r4)):lstR r=((P,G),r4):=by
 simp only [lstR,bindS,pureS,h1,h2,h3,h4,Int.toNat_natCast]
theorem par_zero {α:Type} {P:RS→α × RS} (h:Par P) {r:RS} (hz:(P r).2.2=0):r.2=0:=by
 by_cases q:r.2=0
 ·exact q
 ·rw [h.bad r q] at hz;exact absurd hz q
theorem lstR_eq (r:RS) (h:(lstR r).2.2=0):lstS r=lstR r:=by
 have h4:(manyS digS (smallS 16 (manyS (smallS 20) (smallS 16 r).1.toNat (smallS 16 r).2).2).1.toNat (smallS 16 (manyS (smallS 20) (smallS 16 r).1.toNat (smallS 16 r).2).2).2).2.2=0:=h
 have h3:=par_zero (par_many par_dig _) h4
 have h2:=par_zero (par_small _) h3
 have e1:=many_all_eq (par_small 20) (smallS 16 r).2 (smallS 16 r).1.toNat h2
 have e2:=many_all_eq par_dig (smallS 16 (manyS (smallS 20) (smallS 16 r).1.toNat (smallS 16 r).2).2).2 (smallS 16 (manyS (smallS 20) (smallS 16 r).1.toNat (smallS 16 r).2).2).1.toNat h4
 simp only [lstS,lstR,bindS,pureS,e1,e2]
theorem lstR_bad (r:RS) (h:(lstR r).2.2≠0):(lstS r).2.2≠0:=by
 have h4:(manyS digS (smallS 16 (manyS (smallS 20) (smallS 16 r).1.toNat (smallS 16 r).2).2).1.toNat (smallS 16 (manyS (smallS 20) (smallS 16 r).1.toNat (smallS 16 r).2).2).2).2.2≠0:=h
 show (allS digS (smallS 16 (allS (smallS 20) (smallS 16 r).1.toNat (smallS 16 r).2).2).1.toNat (smallS 16 (allS (smallS 20) (smallS 16 r).1.toNat (smallS 16 r).2).2).2).2.2≠0
 by_cases q:(manyS (smallS 20) (smallS 16 r).1.toNat (smallS 16 r).2).2.2=0
 ·have e1:=many_all_eq (par_small 20) (smallS 16 r).2 (smallS 16 r).1.toNat q
  rw [e1]
  exact many_all_bad par_dig _ _ h4
 ·have e1:=many_all_bad (par_small 20) (smallS 16 r).2 (smallS 16 r).1.toNat q
  have e2:(smallS 16 (allS (smallS 20) (smallS 16 r).1.toNat (smallS 16 r).2).2).2.2≠0:=by rw [(par_small 16).bad _ e1];exact e1
  rw [(par_all par_dig _).bad _ e2]
  exact e2
def preR:RS→Msg × RS:=bindS hdS fun h=>bindS (dgS h.1) fun d=>bindS lstR fun l=>pureS ⟨h.1,h.2.1,h.2.2.1,h.2.2.2.1,h.2.2.2.2,d,l.1,l.2,[]⟩
theorem preR_eq (r:RS) (h:(preR r).2.2=0):preS r=preR r:=by
 have h':(lstR (dgS (hdS r).1.1 (hdS r).2).2).2.2=0:=h
 have e:=lstR_eq _ h'
 simp only [preS,preR,bindS,pureS,e]
theorem preR_bad (r:RS) (h:(preR r).2.2≠0):(preS r).2.2≠0:=by
 have h':(lstR (dgS (hdS r).1.1 (hdS r).2).2).2.2≠0:=h
 have e:=lstR_bad _ h'
 simp only [preS,bindS,pureS]
 exact e
theorem preR_at {r r1 r2 r3 r4 r5 r6 r7:RS} {k f t s p:Int} {d:List Nat} {P:List Int} {G:List (List Nat)} (h1:smallS 7 r=(k,r1)) (h2:smallS 8 r1=(f,r2)) (h3:smallS 8 r2=(t,r3)) (h4:smallS 1099511627776 r3=(s,r4)) (h5:smallS 7 r4=(p,r5)) (h6:dgS k r5=(d,r6)) (h7:lstR r6=((P,G),r7)):preR r=(⟨k,f,t,s,p,d,P,G,[]⟩,r7):=by
 simp only [preR,hdS,bindS,pureS,h1,h2,h3,h4,h5,h6,h7]
theorem readR_is {b:List Nat} {x:Msg} {q:RS} (h:preR (b,0)=(x,q)):readM b=if q.2≠0 then (zeroM,3) else if (readL q.1).2≠0∨rightM { x with kds:=(readL q.1).1 }=false then (zeroM,3) else ({ x with kds:=(readL q.1).1 },0):=by
 by_cases hz:q.2=0
 ·have e:=preR_eq (b,0) (by rw [h];exact hz)
  unfold readM
  rw [e,h]
  dsimp only
  by_cases k:(readL q.1).2≠0∨rightM { x with kds:=(readL q.1).1 }=false
  ·rw [if_pos (Or.inr k),if_neg (fun z=>z hz),if_pos k]
  ·rw [if_neg (fun z=>Or.elim z (fun w=>w hz) k),if_neg (fun z=>z hz),if_neg k]
 ·have e:=preR_bad (b,0) (by rw [h];exact hz)
  unfold readM
  rw [if_pos (.inl e),if_pos hz]
namespace R7
theorem lopC {C:Ctx} {o:Oper} {σ:St} {e:Eff} {ro:Nat→Bool} (h:LOp C o σ e ro:=by
  first|exact WA.lopC|exact T4.lopC|fail):LOp C o σ e ro:=h
section steps
variable {C:Ctx} {ops:Array Oper} {o:Oper} {rest:List Oper} {K:St→Prop} {σ:St} {e:Eff} {ro:Nat→Bool} {W:List (Nat × Nat)} {i:Nat}
theorem rnC {d:Nat} (hg:Guard ops σ o true:=by first|exact gd_n rfl rfl|exact gd_t rfl rfl rfl rfl|exact gd_t rfl rfl rfl (by assumption)) (hd:o.dst=some d:=by rfl) (h:LOp C o σ e ro:=by exact lopC) (hk:RunN C ops rest K (e.app (some d) σ)):RunN C ops (o::rest) K σ:=rn_any hg hd h hk
theorem rkC {d:Nat} (hg:Guard ops σ o true:=by first|exact gd_n rfl rfl|exact gd_t rfl rfl rfl rfl|exact gd_t rfl rfl rfl (by assumption)) (hd':o.dst=some d:=by rfl) (hd:dOk C o.dst=true:=by rfl) (h:LOp C o σ e ro:=by exact lopC) (hro:∀ x,ro x=true→okObj ops W i x=true:=by first|exact fun _=>ro_none|exact ro_one rfl|exact ro_k1 rfl|exact ro_one (by kernel_rfl)|exact ro_k1 (by kernel_rfl)|exact ro_kIn (by decide)) (hob:∀ p∈e.obj,(i,p.1)∈W:=by first|exact ob_none|exact ob_one (by decide)|decide) (hk:RunK C ops W (i+1) rest K (e.app (some d) σ)):RunK C ops W i (o::rest) K σ:=rk_wr hg hd' hd h hro hob hk
end steps
end R7
open R7
theorem set_repN (A:List Nat) (k n:Nat):(A++List.replicate (k+1) 0).set A.length n=(A++[n])++List.replicate k 0:=by
 rw [List.replicate_succ,List.set_append_right _ _ (Nat.le_refl _),Nat.sub_self,List.set_cons_zero,List.append_assoc];rfl
theorem rfdig_o (n:Nat) (b:List Nat) (r:RS) (hr:RfOk b r):OCall Tryz.prog 73 [.o (.ptr 1000 n 0)] (memL [(1000,(n+1,some (rfM b r)))]) (dgV (digS r).1) (memL [(1000,(n+1,some (rfM b (digS r).2)))]):=by
 refine ocall_of1 Tryz.func73 rfl (fun w0 F S0 M0=>?_)
 have e:digS r=(if (takeS 32 r).1.length=32 then (takeS 32 r).1 else zeroD,(takeS 32 r).2):=rfl
 rw [e]
 have h32:=take_32 r
 haveI:∀ c g m:Nat,OC Tryz.prog 146 [.o (.ptr c g 0),.p (.i 32)] [(c,(m,some (rfM b r)))] [] (m=g+1) (.p (.sl 1 ((takeS 32 r).1.map bR) false)) [(c,(m,some (rfM b (takeS 32 r).2)))]:=fun c g m=>⟨fun h=>by obtain rfl:=h;exact (rbytes_o g b r 32 hr.suf hr.len (by decide)).one c⟩
 generalize takeS 32 r=q at *
 obtain ⟨L,r2⟩:=q
 dsimp only at *
 have hfin:(if L.length=32 then L else zeroD)=L++List.replicate (32 - L.length) 0:=by
  rcases h32 with h|h
  ·rw [if_pos h,h];simp
  ·rw [h];rfl
 rw [hfin]
 have hll:L.length≤32:=by rcases h32 with h|h;omega;rw [h];simp
 clear hfin h32 e
 repeat' (first|refine jx5 ?_|refine jy0 ?_ ?_|exact spF|refine spQ fun hq hq'=>?_|refine spN fun hn=>?_|fail)
 refine aws_loopS (3::[5,8,9,10,11,12,13,14,15,16,17,18,19]) [4] (fun (x:Nat × List Nat)=>[(5,.p (.i x.1)),(3,.p (.sl 1 (L.map bR) false))]) (fun x=>[(4,(1,some (.box 23 (x.2.map bcD))))]) (fun x=>x.1≤L.length∧x.2=L.take x.1++List.replicate (32 - x.1) 0) (fun x=>L.length - x.1) (0,zeroD) ⟨Nat.zero_le _,rfl⟩ (by exact knA) (by exact knA) ?_
 rintro ⟨i,u⟩ β γ ⟨hi,hu⟩
 dsimp only at hi hu ⊢
 have lu:u.length=32:=by rw [hu,List.length_append,List.length_replicate,List.length_take];omega
 by_cases hil:i < L.length
 ·have d1:decide ((i:Int) < (L.length:Int))=true:=decide_eq_true (by omega)
  have ei:(i:Int).toNat=i:=Int.toNat_natCast i
  have hs:u.set (i:Int).toNat (L.getD (i:Int).toNat default)=L.take (i+1)++List.replicate (32 - (i+1)) 0:=by
   rw [ei,hu,show 32 - i=(32 - (i+1))+1 by omega]
   have:=set_repN (L.take i) (32 - (i+1)) (L.getD i default)
   rw [List.length_take,Nat.min_eq_left (by omega)] at this
   rw [this,List.take_succ_eq_append_getElem hil,getD_at hil]
  as_aux_lemma=>
   repeat' (first|refine jx5 ?_|refine jy0 ?_ ?_|exact spF|refine spQ fun hq hq'=>?_|refine spN fun hn=>?_|fail)
   exact ⟨(i+1,u.set (i:Int).toNat (L.getD (i:Int).toNat default)),_,by dsimp only;omega,⟨by dsimp only;omega,hs⟩,.refl,by exact frA⟩
 ·have d1:decide ((i:Int) < (L.length:Int))=false:=decide_eq_false (by omega)
  obtain rfl:i=L.length:=by omega
  rw [List.take_length] at hu
  rw [← hu]
  clear hu
  as_aux_lemma=>
   repeat' (first|refine jx5 ?_|refine jy0 ?_ ?_|exact spF|refine spQ fun hq hq'=>?_|refine spN fun hn=>?_|fail)
   exact RetO.mk (oc1 rfl rfl rfl rfl rfl (by rw [List.length_map];exact lu) finL_map rfl) ⟨.box finL_p,trivial⟩
end Go.Proofs.YtcbhmngagibhmaaGreat.Wi
