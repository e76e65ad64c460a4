/- messages in plain Lean: there and back, in one way alone -/
import Derived.Test.YtkgploeegbmofaaGreatOVA29
import Derived.Test.YtkgploeegbmofaaGreatOVA30
import Derived.Test.YtkgploeegbmofaaGreatOVA10
import Derived.Test.YtkgploeegbmofaaGreatOVA21
import Derived.Test.YtkgploeegbmofaaGreatOVA18
import Derived.Test.YtkgploeegbmofaaGreatOVA26
import Derived.Test.YtkgploeegbmofaaGreatOVA15
namespace Go.Proofs.YtkgploeegbmofaaGreat.Wi
open Go Go.RowKit Go.Aw Go.Aw.Cart Go.Aw.Tree Go.Proofs.YtkgploeegbmofaaGreat.Ca Go.Proofs.YtkgploeegbmofaaGreat.Rg
set_option linter.unusedVariables false
set_option linter.unusedSimpArgs false
theorem dig_back {d:List Nat} (h:d.length=32) (q:List Nat):digS (d++q,0)=(d,(q,0)):=by
 have e:takeS 32 (d++q,0)=(d,(q,0)):=by
  unfold takeS
  rw [if_neg (by simp),if_neg (by rw [List.length_append];omega)]
  dsimp only
  rw [List.take_append_of_le_length (by omega),List.drop_append_of_le_length (by omega),List.take_of_length_le (by omega),List.drop_of_length_le (by omega),List.nil_append]
 simp only [digS,bindS,pureS,e,h,if_true]
theorem hd_back {m:Msg} (h:MOk m) (q:List Nat):hdS ((headM m).flatMap numI++q,0)=((m.kind,m.frm,m.to,m.ses,m.part),(q,0)):=by
 have k1:=h.kind
 have k2:=h.frm
 have k3:=h.to
 have k4:=h.ses
 have k5:=h.part
 have e:(headM m).flatMap numI++q=numI m.kind++(numI m.frm++(numI m.to++(numI m.ses++(numI m.part++q)))):=by
  unfold headM
  simp only [List.flatMap_cons,List.flatMap_nil,List.append_nil,List.append_assoc]
 rw [e]
 simp only [hdS,bindS,pureS,smallI_back (n:=m.kind) (most:=7) (by omega) (by omega) (by decide),smallI_back (n:=m.frm) (most:=8) (by omega) (by omega) (by decide),smallI_back (n:=m.to) (most:=8) (by omega) (by omega) (by decide),smallI_back (n:=m.ses) (most:=1099511627776) (by omega) (by omega) (by decide),smallI_back (n:=m.part) (most:=7) (by omega) (by omega) (by decide)]
theorem lst_back {m:Msg} (h:MOk m) (hg:∀ d∈m.dgs,d.length=32) (q:List Nat):lstS (numB m.pls.length++(m.pls.flatMap numI++(numB m.dgs.length++(m.dgs.flatMap id++q))),0)=((m.pls,m.dgs),(q,0)):=by
 have k1:=h.pl
 have k2:=h.dl
 have a1:=all_back (P:=smallS 20) (enc:=numI) (L:=m.pls) (fun a ha q=>smallI_back (h.pls a ha).1 (h.pls a ha).2 (by decide) q) (numB m.dgs.length++(m.dgs.flatMap id++q)) m.pls.length (Nat.le_refl _)
 have a2:=all_back (P:=digS) (enc:=(id:List Nat→List Nat)) (L:=m.dgs) (fun a ha q=>dig_back (hg a ha) q) q m.dgs.length (Nat.le_refl _)
 rw [List.take_length,List.drop_length,List.flatMap_nil,List.nil_append] at a1 a2
 exact lst_at (small_back (x:=m.pls.length) (most:=16) (by omega) (by decide) _) a1 (small_back (x:=m.dgs.length) (most:=16) (by omega) (by decide) _) a2
theorem pre_back {m:Msg} (h:MOk m) (hd:m.dig.length=32) (hg:∀ d∈m.dgs,d.length=32) (q:List Nat):preS (msgH m++q,0)=({ m with kds:=[] },(q,0)):=by
 have e1:=hd_back h ((if m.kind=1 then m.dig else [])++(numB m.pls.length++(m.pls.flatMap numI++(numB m.dgs.length++(m.dgs.flatMap id++q)))))
 have e2:dgS m.kind ((if m.kind=1 then m.dig else [])++(numB m.pls.length++(m.pls.flatMap numI++(numB m.dgs.length++(m.dgs.flatMap id++q)))),0)=(m.dig,(numB m.pls.length++(m.pls.flatMap numI++(numB m.dgs.length++(m.dgs.flatMap id++q))),0)):=by
  unfold dgS
  by_cases k:m.kind=1
  ·rw [if_pos k,if_pos k];exact dig_back hd _
  ·rw [if_neg k,if_neg k]
   have:m.dig=zeroD:=by
    have:=h.own
    have e:m.dig=(ownM m).dig:=by rw [← this]
    rw [e];unfold ownM;dsimp only;rw [if_neg k]
   rw [this];rfl
 have e3:=lst_back h hg q
 have e:msgH m++q=(headM m).flatMap numI++((if m.kind=1 then m.dig else [])++(numB m.pls.length++(m.pls.flatMap numI++(numB m.dgs.length++(m.dgs.flatMap id++q))))):=by
  unfold msgH
  simp only [List.append_assoc]
 rw [e]
 simp only [preS,bindS,pureS,e1,e2,e3]
theorem kds_again (m:Msg):({ ({ m with kds:=[] }:Msg) with kds:=m.kds }:Msg)=m:=rfl
theorem mread_back {m:Msg} (h:MIn m) (hr:rightM m=true):readM (msgB m)=(m,0):=by
 have ok:=right_ok hr
 have e:=pre_back ok h.d32 (fun d hd=>(h.dg d hd).1) (listB m.kds)
 have eL:=readL_back (keys_iff.1 ok.kds) fun k hk=>(h.kd k hk).vec
 unfold readM
 rw [show msgB m=msgH m++listB m.kds from rfl,e]
 dsimp only
 rw [eL,kds_again,hr,if_neg (by simp)]
section
attribute [local irreducible] preS readL
end
section
attribute [local irreducible] preS readL readM listB msgH rightM
end
theorem msgB_ok {m:Msg} (h:MIn m):okB (msgB m):=by
 unfold msgB msgH
 refine okB_app (okB_app (okB_flat fun n _=>numB_ok _) (okB_app ?_ (okB_app (numB_ok _) (okB_app (okB_flat fun n _=>numB_ok _) (okB_app (numB_ok _) (okB_flat fun d hd=>(h.dg d hd).2)))))) (listB_ok fun k hk=>(h.kd k hk).key)
 split
 ·exact h.dok
 ·exact fun c hc=>by cases hc
theorem msgB_le {m:Msg} (h:MIn m) (hr:rightM m=true):(msgB m).length≤60000000:=by
 have ok:=right_ok hr
 have h1:=kdI_le ok.kds h.kd
 have h2:=nums_le (headM m)
 have h3:=nums_le m.pls
 have h4:=digs_le (l:=m.dgs) fun d hd=>(h.dg d hd).1
 have h5:=numB_le m.pls.length
 have h6:=numB_le m.dgs.length
 have h7:(if m.kind=1 then m.dig else []).length≤32:=by
  split
  ·rw [h.d32];exact Nat.le_refl _
  ·simp
 have h8:(headM m).length=5:=rfl
 have h9:=ok.pl
 have h10:=ok.dl
 unfold msgB msgH
 simp only [List.length_append]
 omega
end Go.Proofs.YtkgploeegbmofaaGreat.Wi
namespace Go.Proofs.YtkgploeegbmofaaGreat.Wi
open Go Go.RowKit Go.Aw Go.Aw.Cart Go.Aw.Tree Go.Proofs.YtkgploeegbmofaaGreat.Ca Go.Proofs.YtkgploeegbmofaaGreat.Rg
set_option linter.unusedVariables false
set_option linter.unusedSimpArgs false
set_option maxRecDepth 8000
set_option maxHeartbeats 4000000
structure MGo (m:Msg):Prop where
 d32:m.dig.length=32
 dok:okB m.dig
 pl:m.pls.length≤9223372036854775807
 dl:m.dgs.length≤9223372036854775807
 dg:∀ d∈m.dgs,d.length=32∧okB d
 kl:m.kds.length≤9223372036854775807
 kd:∀ k∈m.kds,KdI k
def greatM (m:Msg):Bool:=decide (60 < (m.pls.length:Int))||(decide (60 < (m.dgs.length:Int))||greatL m.kds)
theorem min_of {m:Msg} (h:MGo m) (hg:greatM m=false):MIn m∧m.pls.length≤60∧m.dgs.length≤60∧greatL m.kds=false:=by
 unfold greatM at hg
 rw [Bool.or_eq_false_iff,Bool.or_eq_false_iff,decide_eq_false_iff_not,decide_eq_false_iff_not] at hg
 obtain ⟨h1,h2,h3⟩:=hg
 obtain ⟨g1,g2⟩:=greatL_no h3
 exact ⟨⟨h.d32,h.dok,by omega,by omega,h.dg,by omega,h.kd,fun k hk=>by have:=(g2 k hk).2;omega⟩,by omega,by omega,h3⟩
theorem rvm_sl0 {es:Nat} {ex:Bool}:∀ μ X Y v,AC.holds μ X (.p (.sl es [] ex)) v→AC.holds μ Y (.p (.sl es [] ex)) v:=by
 rintro μ X Y v ⟨base,cap,h1,h2,h3,h4,h5⟩
 refine ⟨base,cap,h1,h2,h3,h4,?_⟩
 cases base with
 | none=>exact h5
 | some ad=>exact .inl rfl
theorem rvm_t2 {cs:List AC} {c:AC} (h:∀ x∈cs,∀ μ X Y v,AC.holds μ X x v→AC.holds μ Y x v) (k:∀ μ X Y v,AC.holds μ X c v→AC.holds μ Y c v):RV (.tup [.agg cs,.one c]):=by
 rintro μ X Y v ⟨arr,rfl,h1⟩
 refine ⟨arr,rfl,h1.1,fun i q x hq hx=>?_⟩
 have hh:=h1.2 i q x hq hx
 match i,hq with
 | 0,hq=>
  obtain rfl:=Option.some.inj hq
  obtain ⟨a2,rfl,h2⟩:=hh
  exact ⟨a2,rfl,h2.1,fun j y z hy hz=>h y (List.mem_of_getElem? hy) μ X Y z (h2.2 j y z hy hz)⟩
 | 1,hq=>
  obtain rfl:=Option.some.inj hq
  exact k μ X Y x hh
theorem rvm_none:RV (.tup [.agg (mL zeroM),.one (.p (.i 3))]):=by
 refine rvm_t2 (fun x hx=>?_) fun _ _ _ _ h=>h
 simp only [mL,zeroM,List.mem_append,List.mem_cons,List.mem_map,List.not_mem_nil,or_false] at hx
 rcases hx with rfl|rfl|rfl|rfl|rfl | ⟨n,_,rfl⟩|rfl|rfl|rfl
 all_goals first|exact rvm_sl0|exact fun _ _ _ _ h=>h
namespace V1
theorem lopC {C:Ctx} {o:Oper} {σ:St} {e:Eff} {ro:Nat→Bool} (h:LOp C o σ e ro:=by
  first|(apply lop_bz;(focus rfl);(focus exact inferInstance);(focus exact inferInstance);(focus exact inferInstance);(focus rfl);(focus rfl);(focus rfl))|(apply lop_lend1;(focus rfl);(focus exact inferInstance);(focus rfl);(focus rfl);(focus rfl);(focus exact (List.length_map ..).symm);(focus exact inferInstance);(focus first|exact True.intro|assumption|rfl|omega|((repeat' (first|assumption|refine And.intro ?_ ?_|omega|rfl));done)|fail);(focus exact rvm_none);(focus rfl))|exact T4.lopC|fail):LOp C o σ e ro:=h
section steps
variable {C:Ctx} {ops:Array Oper} {o:Oper} {rest:List Oper} {K:St→Prop} {σ:St} {e:Eff} {ro:Nat→Bool} {W:List (Nat × Nat)} {i:Nat}
theorem rnC {d:Nat} (hg:Guard ops σ o true:=by first|exact gd_n rfl rfl|exact gd_t rfl rfl rfl rfl|exact gd_t rfl rfl rfl (by assumption)) (hd:o.dst=some d:=by rfl) (h:LOp C o σ e ro:=by exact lopC) (hk:RunN C ops rest K (e.app (some d) σ)):RunN C ops (o::rest) K σ:=rn_any hg hd h hk
end steps
end V1
open V1
theorem great26_w (m:Msg) (h:MGo m):PCall Tryz.prog 24 [mV m] (.p (.b (greatM m))):=by
 refine pcall_of Tryz.func24 rfl (fun w0 F S0 M0=>?_)
 have h32:(m.dig.map bcD).length=32:=by rw [List.length_map];exact h.d32
 have c1:=pgreat_w m.kds false h.kl
 unfold greatM
 generalize greatL m.kds=G at c1 ⊢
 haveI:PC Tryz.prog 23 [.p (.sl 10 (m.kds.map kR) false)] True (.p (.b G)):=⟨fun _=>c1⟩
 cases d1:decide (60 < (m.pls.length:Int)) with
 | true=>
  rw [Bool.true_or]
  as_aux_lemma=>
   repeat' (first|refine jx5 ?_|refine jy0 ?_ ?_|exact spF|refine spQ fun hq hq'=>?_|refine spN fun hn=>?_|fail)
   exact rt1 rfl rfl finS_p rfl
 | false=>
  rw [Bool.false_or]
  cases d2:decide (60 < (m.dgs.length:Int)) with
  | true=>
   rw [Bool.true_or]
   as_aux_lemma=>
    repeat' (first|refine jx5 ?_|refine jy0 ?_ ?_|exact spF|refine spQ fun hq hq'=>?_|refine spN fun hn=>?_|fail)
    exact rt1 rfl rfl finS_p rfl
  | false=>
   rw [Bool.false_or]
   as_aux_lemma=>
    repeat' (first|refine jx5 ?_|refine jy0 ?_ ?_|exact spF|refine spQ fun hq hq'=>?_|refine spN fun hn=>?_|fail)
    exact rt1 rfl rfl finS_p rfl
end Go.Proofs.YtkgploeegbmofaaGreat.Wi
namespace Go.Aw
open Go Go.RowKit
set_option linter.unusedVariables false
set_option linter.unusedSimpArgs false
theorem bfill2 {P:Nat→Option (Nat × Nat)} {a b:Nat} {z M N:List AC} (h0:P 0=some (0,a)) (h1:P 1=some (a,b)) (hz:z.length=a+b) (hM:M.length=a) (hN:N.length=b):bfill P z [(0,M),(1,N)]=some (M++N):=by
 rw [bfill,h0]
 dsimp only
 rw [if_pos ⟨hM,by omega⟩,bfill,h1]
 dsimp only
 have hl:(z.take 0++M++z.drop (0+a)).length=a+b:=by simp [hM];omega
 rw [if_pos ⟨hN,by rw [hl];omega⟩,bfill]
 congr 1
 rw [List.take_zero,List.nil_append,Nat.zero_add,List.take_left' hM,List.drop_of_length_le (by simp [hM];omega),List.append_nil]
section
variable {C:Ctx} {o:Oper} {σ:St} {T:TypeId} {x y:Operand} {k:TK} {sz by_ ob g n off:Nat} {ty:TypeId}
theorem lop_ldp {cs ds:List AC} {L:Nat} (ho:o.op=.load T x) (hT:TI C.P T k sz by_) (hx:σ.look x=.o (.ptr ob g off)) (hm:σ.mem ob=(n,some (.box ty cs))) (hn:n=g+1) (hk:k.agg=true) (hl:cs.length=L) (hL:off+sz≤L) (hc:(cs.drop off).take sz=ds) (hd:dOk C o.dst=true):LOp C o σ ⟨.a ds,[]⟩ (fun y=>y == ob):=by
 have:=lop_load_box (o:=o) ho hx hm hn hk (by omega) hd
 rwa [hc] at this
theorem lop_lda {row:List PVal} {cs:List AC} (ho:o.op=.load T x) (hT:TI C.P T k sz by_) (hx:σ.look x=.p (.at_ row)) (hk:k.agg=true) (hz:0 < sz) (hl:sz≤row.length) (hc:(row.take sz).map .p=cs) (hd:dOk C o.dst=true):LOp C o σ ⟨.a cs,[]⟩ (fun _=>false):=by
 subst hc
 exact lop_load_at (o:=o) ho hx hk hz hl hd
theorem lop_sta {cs ds:List AC} {L:Nat} (ho:o.op=.store T x y) (hT:TI C.P T k sz by_) (hdst:o.dst=none) (hx:σ.look x=.o (.ptr ob g 0)) (hy:σ.look y=.a ds) (hm:σ.mem ob=(n,some (.box ty cs))) (hn:n=g+1) (hs:sz=L) (hl:cs.length=L) (hl2:ds.length=L):LOp C o σ ⟨.un,[(ob,(n,some (.box ty ds)))]⟩ (fun z=>z == ob):=
 lop_store_all (o:=o) ho hdst hx hy hm hn (hl.trans hs.symm) (hl2.trans hs.symm)
theorem lop_bld2 {x0 x1:Operand} {M N:List AC} {s1:SV} {a b:Nat} {fs:List (Nat × Nat)} {z:List Value} (ho:o.op=.build T #[(0,x0),(1,x1)]) (hF:TF C.P T fs) (hz:TZ C.P T z) (g0:σ.look x0=.a M) (g1:σ.look x1=.s s1) (hN:s1.cells=N) (h0:fs[0]?=some (0,a)) (h1:fs[1]?=some (a,b)) (hzl:z.length=a+b) (hM:M.length=a) (hNl:N.length=b) (hz1:z.all (·.oneCell')=true) (hd:dOk C o.dst=true):LOp C o σ ⟨.a (M++N),[]⟩ (fun _=>false):=
 lop_buildx (ps:=[(0,M),(1,N)]) ho hF hz (.cons ⟨rfl,_,g0,rfl⟩ (.cons ⟨rfl,_,g1,hN⟩ .nil)) hz1 (bfill2 h0 h1 (by rw [List.length_map];exact hzl) hM hNl) hd
theorem lop_bsr {sz':Nat} {e:TypeId} {ke:TK} {be es:Nat} {z:List Value} {x0:Operand} {cs:List AC} {row:List PVal} (ho:o.op=.buildSlice T 1 #[(0,x0)]) (hT:TI C.P T (.slice e) sz' by_) (he:TI C.P e ke es be) (hz:TZ C.P e z) (h0:σ.look x0=.a cs) (hc:cs=row.map .p) (hl:row.length=es) (hp:0 < es) (hs:es≤2 ^ 24) (hd:dOk C o.dst=true):LOp C o σ ⟨.p (.sl es [row] true),[]⟩ (fun _=>false):=
 lop_buildSlice (ps:=[(0,row)]) ho (.cons ⟨rfl,hl,_,h0,hc⟩ .nil) rfl hp (by omega) hd
end
end Go.Aw
namespace Go.Proofs.YtkgploeegbmofaaGreat.Wi
open Go Go.RowKit Go.Aw Go.Aw.Cart Go.Aw.Tree Go.Proofs.YtkgploeegbmofaaGreat.Ca Go.Proofs.YtkgploeegbmofaaGreat.Rg
set_option linter.unusedVariables false
set_option linter.unusedSimpArgs false
set_option maxRecDepth 8000
set_option maxHeartbeats 4000000
abbrev Hm:=Msg × Int
def hmR (h:Hm):List PVal:=mR h.1++[.i h.2]
theorem mR_len {m:Msg} (h:m.dig.length=32):(mR m).length=40:=by simp [h]
theorem mL_len' {m:Msg} (h:m.dig.length=32):(mL m).length=40:=mlen (by rw [List.length_map];exact h)
theorem hmR_len {h:Hm} (k:h.1.dig.length=32):(hmR h).length=41:=by
 unfold hmR
 rw [List.length_append,show (mR h.1).length=40 from mR_len k];rfl
theorem hm_map (h:Hm):(hmR h).map AC.p=mL h.1++[.p (.i h.2)]:=by
 unfold hmR
 rw [List.map_append,← mL_eq];rfl
theorem hm_0 {h:Hm} (k:h.1.dig.length=32):(((hmR h).map AC.p).drop 0).take 40=mL h.1:=by
 rw [hm_map,List.drop_zero,List.take_left' (mL_len' k)]
theorem hm_40 {h:Hm} (k:h.1.dig.length=32):((hmR h).map AC.p)[0+40]?=some (.p (.i h.2)):=by
 rw [hm_map,List.getElem?_append_right (by rw [mL_len' k];omega),mL_len' k];rfl
theorem hm_t {h:Hm} (k:h.1.dig.length=32):((hmR h).take 41).map AC.p=(hmR h).map AC.p:=by rw [List.take_of_length_le (Nat.le_of_eq (hmR_len k))]
theorem m_t {m:Msg} (k:m.dig.length=32):((mR m).take 40).map AC.p=mL m:=by rw [List.take_of_length_le (Nat.le_of_eq (mR_len k)),mL_eq]
theorem hm_mk (m:Msg) (n:Int):mL m++[.p (.i n)]=(hmR (m,n)).map AC.p:=(hm_map (m,n)).symm
def goneF (l:List Hm) (s:Int):List Msg:=(l.filter fun h=>decide (h.2≤s)).map (·.1)
def waitF (l:List Hm) (s:Int):List Hm:=l.filter fun h=>!decide (h.2≤s)
theorem gone_take {l:List Hm} {i:Nat} {s:Int} (h:i < l.length):goneF (l.take (i+1)) s=goneF (l.take i) s++if (l.getD i default).2≤s then [(l.getD i default).1] else []:=by
 unfold goneF
 rw [List.take_succ_eq_append_getElem h,List.filter_append,List.map_append,List.getD_eq_getElem?_getD,List.getElem?_eq_getElem h]
 by_cases q:(l[i]).2≤s<;>simp [q]
theorem wait_take {l:List Hm} {i:Nat} {s:Int} (h:i < l.length):waitF (l.take (i+1)) s=waitF (l.take i) s++if (l.getD i default).2≤s then [] else [l.getD i default]:=by
 unfold waitF
 rw [List.take_succ_eq_append_getElem h,List.filter_append,List.getD_eq_getElem?_getD,List.getElem?_eq_getElem h]
 by_cases q:(l[i]).2≤s<;>simp [q]
namespace O1
theorem lopC {C:Ctx} {o:Oper} {σ:St} {e:Eff} {ro:Nat→Bool} (h:LOp C o σ e ro:=by
  first
   | exact lop_load_all rfl rfl rfl rfl rfl (by rw [List.length_map];exact hmR_len (by assumption)) rfl
   | (apply gLoad;(focus rfl);first|(apply lop_ldp (L:=41);(focus rfl);(focus exact inferInstance);(focus rfl);(focus rfl);(focus rfl);(focus rfl);(focus rw [List.length_map];exact hmR_len (by assumption));(focus decide);(focus exact hm_0 (by assumption));(focus rfl))|(apply lop_lda;(focus rfl);(focus exact inferInstance);(focus rfl);(focus rfl);(focus decide);(focus exact Nat.le_of_eq (hmR_len (by assumption)).symm);(focus exact hm_t (by assumption));(focus rfl))|(apply lop_lda;(focus rfl);(focus exact inferInstance);(focus rfl);(focus rfl);(focus decide);(focus exact Nat.le_of_eq (mR_len (by assumption)).symm);(focus exact m_t (by assumption));(focus rfl))|(apply lop_ldm;(focus rfl);(focus exact inferInstance);(focus rfl);(focus rfl);(focus rfl);(focus rfl);(focus rfl);(focus exact hm_40 (by assumption));(focus rfl)))
   | (apply lop_bsr (row:=hmR _);(focus rfl);(focus exact inferInstance);(focus exact inferInstance);(focus exact inferInstance);(focus rfl);(focus rfl);(focus exact hmR_len (by assumption));(focus decide);(focus decide);(focus rfl))
   | (apply lop_bsr (row:=mR _);(focus rfl);(focus exact inferInstance);(focus exact inferInstance);(focus exact inferInstance);(focus rfl);(focus exact mL_eq _);(focus exact mR_len (by assumption));(focus decide);(focus decide);(focus rfl))
   | exact T4.lopC
   | fail):LOp C o σ e ro:=h
theorem stoH {C:Ctx} {o:Oper} {σ:St} {e:Eff} {ro:Nat→Bool} (h:LOp C o σ e ro:=by
  first|(apply lop_sta (L:=41);(focus rfl);(focus exact inferInstance);(focus rfl);(focus rfl);(focus rfl);(focus rfl);(focus rfl);(focus rfl);(focus first|rfl|(rw [List.length_map];exact hmR_len (by assumption)));(focus rw [List.length_map];exact hmR_len (by assumption)))|exact stoM|fail):LOp C o σ e ro:=h
section steps
variable {C:Ctx} {ops:Array Oper} {o:Oper} {rest:List Oper} {K:St→Prop} {σ:St} {e:Eff} {ro:Nat→Bool} {W:List (Nat × Nat)} {i:Nat}
theorem rnC {d:Nat} (hg:Guard ops σ o true:=by first|exact gd_n rfl rfl|exact gd_t rfl rfl rfl rfl|exact gd_t rfl rfl rfl (by assumption)) (hd:o.dst=some d:=by rfl) (h:LOp C o σ e ro:=by exact lopC) (hk:RunN C ops rest K (e.app (some d) σ)):RunN C ops (o::rest) K σ:=rn_any hg hd h hk
theorem rkC {d:Nat} (hg:Guard ops σ o true:=by first|exact gd_n rfl rfl|exact gd_t rfl rfl rfl rfl|exact gd_t rfl rfl rfl (by assumption)) (hd':o.dst=some d:=by rfl) (hd:dOk C o.dst=true:=by rfl) (h:LOp C o σ e ro:=by exact lopC) (hro:∀ x,ro x=true→okObj ops W i x=true:=by first|exact fun _=>ro_none|exact ro_one rfl|exact ro_k1 rfl|exact ro_one (by kernel_rfl)|exact ro_k1 (by kernel_rfl)|exact ro_kIn (by decide)) (hob:∀ p∈e.obj,(i,p.1)∈W:=by first|exact ob_none|exact ob_one (by decide)|decide) (hk:RunK C ops W (i+1) rest K (e.app (some d) σ)):RunK C ops W i (o::rest) K σ:=rk_wr hg hd' hd h hro hob hk
end steps
section steps
variable {C:Ctx} {ops:Array Oper} {o:Oper} {rest:List Oper} {K:St→Prop} {σ:St} {e:Eff} {ro:Nat→Bool} {W:List (Nat × Nat)} {i:Nat}
theorem rnSH (hg:Guard ops σ o true:=by first|exact gd_n rfl rfl|exact gd_t rfl rfl rfl rfl|exact gd_t rfl rfl rfl (by assumption)) (hd:o.dst=none:=by rfl) (h:LOp C o σ e ro:=by exact stoH) (hk:RunN C ops rest K (e.app none σ)):RunN C ops (o::rest) K σ:=rn_sto hg hd h hk
end steps
end O1
open O1
theorem splitM_o (l:List Hm) (ex:Bool) (s:Int) (hl:l.length≤1000000) (hd:∀ h∈l,h.1.dig.length=32):OCall Tryz.prog 46 [.p (.sl 41 (l.map hmR) ex),.p (.i s)] (fun _=>(0,none)) (.tup [.one (.p (.sl 40 ((goneF l s).map mR) false)),.one (.osl 1000 (waitF l s).length 41 0 (waitF l s).length)]) (memL [(1000,((waitF l s).length+1,some (.buf 103 41 ((waitF l s).map hmR))))]):=by
 refine ocall_ofF 1000 Tryz.func46 rfl (fun w0 F S0 M0=>?_)
 repeat' (first|refine jx17 ?_|refine jy0 ?_ ?_|exact spF|refine spQ fun hq hq'=>?_|refine spN fun hn=>?_|fail)
 refine aws_says (says_nil (t:=6) (o:=901) (es:=40) (ty:=38) rfl rfl (by decide)) ?_
 refine aws_says (says_nil (t:=7) (o:=1000) (es:=41) (ty:=103) rfl rfl (by decide)) ?_
 refine aws_loopS [6,7,9,12,13,14,15,16,17,18,19,20,21,22,23,24,25,26,27,28,29] [9,901,1000] (fun (x:Nat × Nat × Nat × List Msg × List Hm × (Nat × Option MO))=>[(12,.p (.i x.1)),(6,.o (.osl 901 x.2.1 40 0 x.2.2.2.1.length)),(7,.o (.osl 1000 x.2.2.1 41 0 x.2.2.2.2.1.length))]) (fun x=>[(9,x.2.2.2.2.2),(901,(x.2.1+1,some (.buf 38 40 (x.2.2.2.1.map mR)))),(1000,(x.2.2.1+1,some (.buf 103 41 (x.2.2.2.2.1.map hmR))))]) (fun x=>x.1≤l.length∧x.2.2.2.1=goneF (l.take x.1) s∧x.2.2.2.2.1=waitF (l.take x.1) s∧x.2.2.1=x.2.2.2.2.1.length) (fun x=>l.length - x.1) (0,0,0,[],[],(0,none)) ⟨Nat.zero_le _,rfl,rfl,rfl⟩ (by exact knA) (by exact knA) ?_
 rintro ⟨i,g,v,G,V,m9⟩ β γ ⟨hi,hG,hV,hv⟩
 dsimp only at hi hG hV hv ⊢
 have hGl:G.length≤1000000:=by
  rw [hG];unfold goneF;rw [List.length_map]
  have:=List.length_filter_le (fun h:Hm=>decide (h.2≤s)) (l.take i)
  rw [List.length_take] at this;omega
 have hVl:V.length≤1000000:=by
  rw [hV];unfold waitF
  have:=List.length_filter_le (fun h:Hm=>!decide (h.2≤s)) (l.take i)
  rw [List.length_take] at this;omega
 by_cases hil:i < l.length
 ·have d1:decide ((i:Int) < (l.length:Int))=true:=decide_eq_true (by omega)
  have ei:(i:Int).toNat=i:=Int.toNat_natCast i
  have hg:=gone_take (s:=s) hil
  have hw:=wait_take (s:=s) hil
  have hx:(l.getD (i:Int).toNat default).1.dig.length=32:=hd _ (by rw [ei,getD_at hil];exact List.getElem_mem _)
  rw [← hG] at hg
  rw [← hV] at hw
  rw [show l.getD i default=l.getD (i:Int).toNat default by rw [ei]] at hg hw
  clear hG hV
  by_cases q:(l.getD (i:Int).toNat default).2≤s
  ·have d2:decide ((l.getD (i:Int).toNat default).2≤s)=true:=decide_eq_true q
   rw [if_pos q] at hg hw
   rw [List.append_nil] at hw
   as_aux_lemma=>
    repeat' (first|refine jx17 ?_|refine jy0 ?_ ?_|exact spF|refine spQ fun hq hq'=>?_|refine spN fun hn=>?_|fail)
    exact ⟨(i+1,g+1,v,G++[(l.getD (i:Int).toNat default).1],V,_),_,by dsimp only;omega,⟨by dsimp only;omega,hg.symm,hw.symm,hv⟩,.refl,by exact frA⟩
  ·have d2:decide ((l.getD (i:Int).toNat default).2≤s)=false:=decide_eq_false q
   rw [if_neg q] at hg hw
   rw [List.append_nil] at hg
   as_aux_lemma=>
    repeat' (first|refine jx17 ?_|refine jy0 ?_ ?_|exact spF|refine spQ fun hq hq'=>?_|refine spN fun hn=>?_|fail)
    exact ⟨(i+1,g,v+1,G,V++[l.getD (i:Int).toNat default],_),_,by dsimp only;omega,⟨by dsimp only;omega,hg.symm,hw.symm,by dsimp only;rw [List.length_append,List.length_singleton,hv]⟩,.refl,by exact frA⟩
 ·have d1:decide ((i:Int) < (l.length:Int))=false:=decide_eq_false (by omega)
  obtain rfl:i=l.length:=by omega
  rw [List.take_length] at hG hV
  rw [← hG,← hV]
  subst hv
  clear hG hV
  as_aux_lemma=>
   repeat' (first|refine jx17 ?_|refine jy0 ?_ ?_|exact spF|refine spQ fun hq hq'=>?_|refine spN fun hn=>?_|fail)
   exact RetO.mk (ot2 rfl rfl (.one (finC_map rfl rfl rfl rfl)) rfl (.one (.kosl rfl)) rfl) ⟨.buf,trivial⟩
end Go.Proofs.YtkgploeegbmofaaGreat.Wi
namespace Go.Aw
open Go Go.RowKit
set_option linter.unusedVariables false
set_option linter.unusedSimpArgs false
section
variable {C:Ctx} {σ:St} {p np ty a na tA ea lo b nb tB eb:Nat} {p0 p3:PVal} {ra rb:List (List PVal)} {ma mb:Option MO}
theorem says_unpack2 (hp:σ.mem p=(np,some (.abs (pkN ty [.p p0,.b tA ea lo ra,.b tB eb 0 rb,.p p3])))) (ha:σ.mem a=(na,ma)) (hb:σ.mem b=(nb,mb)) (hab:a≠b) (hap:a≠p) (hbp:b≠p) {la lb:Nat} (hla:ra.length - lo=la) (hlb:rb.length=lb) :
  Says C σ (((σ.put b (nb+1,some (.buf tB eb rb))).put a (na+1,some (.buf tA ea ra))).put p (np,some (.box ty [.p p0,.osl a na ea lo la,.osl b nb eb 0 lb,.p p3]))):=by
 subst hla hlb
 exact says_unpackL (C:=C) (cells:=[.p p0,.b a na tA ea lo ra,.b b nb tB eb 0 rb,.p p3]) hp (fun o n t e l r hm=>by
  simp only [List.mem_cons,List.not_mem_nil,or_false,Cl.b.injEq,reduceCtorEq,false_or] at hm
  rcases hm with ⟨rfl,rfl,rfl,rfl,rfl,rfl⟩ | ⟨rfl,rfl,rfl,rfl,rfl,rfl⟩
  ·exact ⟨by rw [ha],hap⟩
  ·exact ⟨by rw [hb],hbp⟩) (clNd_of (by simp [clObs,hab]))
theorem says_pack2 {la lb:Nat} (hp:σ.mem p=(np,some (.box ty [.p p0,.osl a na ea lo la,.osl b nb eb 0 lb,.p p3]))) {ka kb:Nat} (ha:σ.mem a=(ka,some (.buf tA ea ra))) (hb:σ.mem b=(kb,some (.buf tB eb rb))) (hka:ka=na+1) (hkb:kb=nb+1) (hla:ra.length=lo+la) (hlb:rb.length=lb) (hab:a≠b) (hap:a≠p) (hbp:b≠p) :
  Says C σ (((σ.put b (kb,none)).put a (ka,none)).put p (np,some (.abs (pkN ty [.p p0,.b tA ea lo ra,.b tB eb 0 rb,.p p3])))):=by
 obtain rfl:la=ra.length - lo:=by omega
 subst hlb hka hkb
 exact says_packL (C:=C) (cells:=[.p p0,.b a na tA ea lo ra,.b b nb tB eb 0 rb,.p p3]) hp (fun o n t e l r hm=>by
  simp only [List.mem_cons,List.not_mem_nil,or_false,Cl.b.injEq,reduceCtorEq,false_or] at hm
  rcases hm with ⟨rfl,rfl,rfl,rfl,rfl,rfl⟩ | ⟨rfl,rfl,rfl,rfl,rfl,rfl⟩
  ·exact ⟨ha,hap,by omega⟩
  ·exact ⟨hb,hbp,Nat.zero_le _⟩) (clNd_of (by simp [clObs,hab]))
end
end Go.Aw
namespace Go.Proofs.YtkgploeegbmofaaGreat.Wi
open Go Go.RowKit Go.Aw Go.Aw.Cart Go.Aw.Tree Go.Proofs.YtkgploeegbmofaaGreat.Ca Go.Proofs.YtkgploeegbmofaaGreat.Rg
set_option linter.unusedVariables false
set_option linter.unusedSimpArgs false
set_option maxRecDepth 8000
set_option maxHeartbeats 4000000
abbrev Ans:=Int × Int × List Int
abbrev Ha:=Ans × Int
abbrev aR (a:Ans):List PVal:=[.i a.1,.i a.2.1,.sl 1 (a.2.2.map iRw) false]
abbrev aV (a:Ans):AV:=.a [.p (.i a.1),.p (.i a.2.1),.p (.sl 1 (a.2.2.map iRw) false)]
abbrev haR (h:Ha):List PVal:=[.i h.1.1,.i h.1.2.1,.sl 1 (h.1.2.2.map iRw) false,.i h.2]
structure Bx where
 out:List Hm
 ans:List Ha
 lost:Int
abbrev BP (b:Bx):={P:List Hm // P=[]∨b.out.length=500}
abbrev bxL (b:Bx) (lo:Nat) (ra:List (List PVal)):AObj:=pkN 55 [.p (.b true),.b 103 41 lo ra,.b 105 4 0 (b.ans.map haR),.p (.i b.lost)]
abbrev bxP (b:Bx) (P:BP b):AObj:=bxL b P.1.length ((P.1++b.out).map hmR)
abbrev bxA (b:Bx):AObj:=exA (bxP b)
theorem bx_len {α:Type} {f:α→List PVal} (P L:List α):((P++L).map f).length - P.length=L.length:=by rw [List.length_map,List.length_append];omega
theorem bx_drop {α:Type} {f:α→List PVal} (P L:List α):((P++L).map f).drop P.length=L.map f:=by rw [List.map_append];exact List.drop_left' (List.length_map _)
theorem bx_le {α:Type} {f:α→List PVal} (P L:List α):((P++L).map f).length=P.length+L.length:=by rw [List.length_map,List.length_append]
abbrev bxM (b:Bx):MO:=.abs (bxA b)
open O1
theorem obNew_o:OCall Tryz.prog 9 [] (fun _=>(0,none)) (.o (.ptr 2 0 0)) (memL [(2,(1,some (bxM ⟨[],[],0⟩)))]):=by
 refine ocall_ofF 2 Tryz.func9 rfl (fun w0 F S0 M0=>?_)
 repeat' (first|refine jx18 ?_|refine jy0 ?_ ?_|exact spF|refine spQ fun hq hq'=>?_|refine spN fun hn=>?_|fail)
 refine aws_says (says_nil_at (p:=2) (o:=901) (k:=1) (es:=41) (ty:=103) (ds:=[.p (.b true),.osl 901 0 41 0 0,.p (.v (.slice none 0 0)),.p (.i 0)]) rfl rfl rfl rfl (by decide) (by decide)) ?_
 refine aws_says (says_nil_at (p:=2) (o:=902) (k:=2) (es:=4) (ty:=105) (ds:=[.p (.b true),.osl 901 0 41 0 0,.osl 902 0 4 0 0,.p (.i 0)]) rfl rfl rfl rfl (by decide) (by decide)) ?_
 refine aws_says (says_pack2 (p:=2) (a:=901) (b:=902) (lo:=0) rfl rfl rfl rfl rfl rfl rfl (by decide) (by decide) (by decide)) ?_
 refine aws_says (says_toex (p:=2) (f:=bxP ⟨[],[],0⟩) ⟨[],.inl rfl⟩ rfl) ?_
 as_aux_lemma=>
  repeat' (first|refine jx17 ?_|refine jy0 ?_ ?_|exact spF|refine spQ fun hq hq'=>?_|refine spN fun hn=>?_|fail)
  exact RetO.mk (ot1 rfl rfl (.one (.kptr rfl)) rfl) ⟨.abs,trivial⟩
instance obNew_i {c k:Nat}:OC Tryz.prog 9 [] [] [(c,k)] True (.o (.ptr c k 0)) [(c,(k+1,some (bxM ⟨[],[],0⟩)))]:=⟨fun _=>obNew_o.fresh1 c k⟩
def askF (m:Int):Int:=if m < 0 then 1 else 0
theorem obAsk_o (n:Nat) (b:Bx) (m:Int):OCall Tryz.prog 47 [.o (.ptr 1000 n 0),.p (.i m)] (memL [(1000,(n+1,some (bxM b)))]) (.p (.i (askF m))) (memL [(1000,(n+1,some (bxM b)))]):=by
 refine ocall_of1 Tryz.func47 rfl (fun w0 F S0 M0=>?_)
 refine aws_unex (p:=1000) (f:=bxP b) rfl fun ⟨P,hP⟩=>?_
 refine aws_says (says_unpack2 (p:=1000) (a:=901) (b:=902) (lo:=P.length) rfl rfl rfl (by decide) (by decide) (by decide) (bx_len P b.out) (List.length_map _)) ?_
 unfold askF
 by_cases q:m < 0
 ·have d1:decide (m < 0)=true:=decide_eq_true q
  rw [if_pos q]
  repeat' (first|refine jx18 ?_|refine jy0 ?_ ?_|exact spF|refine spQ fun hq hq'=>?_|refine spN fun hn=>?_|fail)
  refine aws_says (says_pack2 (p:=1000) (a:=901) (b:=902) (lo:=P.length) rfl rfl rfl rfl rfl (bx_le P b.out) (List.length_map _) (by decide) (by decide) (by decide)) ?_
  refine aws_says (says_toex (p:=1000) (f:=bxP b) ⟨P,hP⟩ rfl) ?_
  as_aux_lemma=>
   repeat' (first|refine jx17 ?_|refine jy0 ?_ ?_|exact spF|refine spQ fun hq hq'=>?_|refine spN fun hn=>?_|fail)
   exact RetO.mk (ot1 rfl rfl finS_p rfl) ⟨.abs,trivial⟩
 ·have d1:decide (m < 0)=false:=decide_eq_false q
  rw [if_neg q]
  repeat' (first|refine jx18 ?_|refine jy0 ?_ ?_|exact spF|refine spQ fun hq hq'=>?_|refine spN fun hn=>?_|fail)
  refine aws_says (says_pack2 (p:=1000) (a:=901) (b:=902) (lo:=P.length) rfl rfl rfl rfl rfl (bx_le P b.out) (List.length_map _) (by decide) (by decide) (by decide)) ?_
  refine aws_says (says_toex (p:=1000) (f:=bxP b) ⟨P,hP⟩ rfl) ?_
  as_aux_lemma=>
   repeat' (first|refine jx17 ?_|refine jy0 ?_ ?_|exact spF|refine spQ fun hq hq'=>?_|refine spN fun hn=>?_|fail)
   exact RetO.mk (ot1 rfl rfl finS_p rfl) ⟨.abs,trivial⟩
instance obAsk_i {c g n:Nat} {b:Bx} {m:Int}:OC Tryz.prog 47 [.o (.ptr c g 0),.p (.i m)] [(c,(n,some (bxM b)))] [] (n=g+1) (.p (.i (askF m))) [(c,(n,some (bxM b)))]:=⟨fun h=>by obtain rfl:=h;exact (obAsk_o g b m).one c⟩
theorem obWaits_o (n:Nat) (b:Bx):OCall Tryz.prog 10 [.o (.ptr 1000 n 0)] (memL [(1000,(n+1,some (bxM b)))]) (.tup [.one (.p (.i (b.out.length:Int))),.one (.p (.i (b.ans.length:Int)))]) (memL [(1000,(n+1,some (bxM b)))]):=by
 refine ocall_of1 Tryz.func10 rfl (fun w0 F S0 M0=>?_)
 refine aws_unex (p:=1000) (f:=bxP b) rfl fun ⟨P,hP⟩=>?_
 refine aws_says (says_unpack2 (p:=1000) (a:=901) (b:=902) (lo:=P.length) rfl rfl rfl (by decide) (by decide) (by decide) (bx_len P b.out) (List.length_map _)) ?_
 repeat' (first|refine jx19 ?_|refine jy0 ?_ ?_|exact spF|refine spQ fun hq hq'=>?_|refine spN fun hn=>?_|fail)
 refine aws_says (says_pack2 (p:=1000) (a:=901) (b:=902) (lo:=P.length) rfl rfl rfl rfl rfl (bx_le P b.out) (List.length_map _) (by decide) (by decide) (by decide)) ?_
 refine aws_says (says_toex (p:=1000) (f:=bxP b) ⟨P,hP⟩ rfl) ?_
 as_aux_lemma=>
  repeat' (first|refine jx17 ?_|refine jy0 ?_ ?_|exact spF|refine spQ fun hq hq'=>?_|refine spN fun hn=>?_|fail)
  exact RetO.mk (ot2 rfl rfl finS_p rfl finS_p rfl) ⟨.abs,trivial⟩
theorem obWaits_i {c g n:Nat} {b:Bx}:OC Tryz.prog 10 [.o (.ptr c g 0)] [(c,(n,some (bxM b)))] [] (n=g+1) (.tup [.one (.p (.i (b.out.length:Int))),.one (.p (.i (b.ans.length:Int)))]) [(c,(n,some (bxM b)))]:=⟨fun h=>by obtain rfl:=h;exact (obWaits_o g b).one c⟩
theorem obLost_o (n:Nat) (b:Bx):OCall Tryz.prog 11 [.o (.ptr 1000 n 0)] (memL [(1000,(n+1,some (bxM b)))]) (.p (.i b.lost)) (memL [(1000,(n+1,some (bxM b)))]):=by
 refine ocall_of1 Tryz.func11 rfl (fun w0 F S0 M0=>?_)
 refine aws_unex (p:=1000) (f:=bxP b) rfl fun ⟨P,hP⟩=>?_
 refine aws_says (says_unpack2 (p:=1000) (a:=901) (b:=902) (lo:=P.length) rfl rfl rfl (by decide) (by decide) (by decide) (bx_len P b.out) (List.length_map _)) ?_
 repeat' (first|refine jx18 ?_|refine jy0 ?_ ?_|exact spF|refine spQ fun hq hq'=>?_|refine spN fun hn=>?_|fail)
 refine aws_says (says_pack2 (p:=1000) (a:=901) (b:=902) (lo:=P.length) rfl rfl rfl rfl rfl (bx_le P b.out) (List.length_map _) (by decide) (by decide) (by decide)) ?_
 refine aws_says (says_toex (p:=1000) (f:=bxP b) ⟨P,hP⟩ rfl) ?_
 as_aux_lemma=>
  repeat' (first|refine jx17 ?_|refine jy0 ?_ ?_|exact spF|refine spQ fun hq hq'=>?_|refine spN fun hn=>?_|fail)
  exact RetO.mk (ot1 rfl rfl finS_p rfl) ⟨.abs,trivial⟩
theorem obLost_i {c g n:Nat} {b:Bx}:OC Tryz.prog 11 [.o (.ptr c g 0)] [(c,(n,some (bxM b)))] [] (n=g+1) (.p (.i b.lost)) [(c,(n,some (bxM b)))]:=⟨fun h=>by obtain rfl:=h;exact (obLost_o g b).one c⟩
theorem obOut_o (n:Nat) (b:Bx) (s:Int) (hl:b.out.length≤1000000) (hd:∀ h∈b.out,h.1.dig.length=32):OCall Tryz.prog 14 [.o (.ptr 1000 n 0),.p (.i s)] (memL [(1000,(n+1,some (bxM b)))]) (.p (.sl 40 ((goneF b.out s).map mR) false)) (memL [(1000,(n+1,some (bxM ⟨waitF b.out s,b.ans,b.lost⟩)))]):=by
 refine ocall_of1 Tryz.func14 rfl (fun w0 F S0 M0=>?_)
 refine aws_unex (p:=1000) (f:=bxP b) rfl fun ⟨P,hP⟩=>?_
 refine aws_says (says_unpack2 (p:=1000) (a:=901) (b:=902) (lo:=P.length) rfl rfl rfl (by decide) (by decide) (by decide) (bx_len P b.out) (List.length_map _)) ?_
 refine aws_says (says_frz_lo (p:=1000) (o:=901) (k:=1) (ds:=[.p (.b true),.p (.sl 41 (b.out.map hmR) false),.osl 902 0 4 0 b.ans.length,.p (.i b.lost)]) rfl rfl (by rw [bx_drop];rfl) rfl rfl (bx_le P b.out).symm (by decide)) ?_
 haveI i1:∀ c m:Nat,OC Tryz.prog 46 [.p (.sl 41 (b.out.map hmR) false),.p (.i s)] [] [(c,m)] True (.tup [.one (.p (.sl 40 ((goneF b.out s).map mR) false)),.one (.osl c (m+(waitF b.out s).length) 41 0 (waitF b.out s).length)]) [(c,(m+((waitF b.out s).length+1),some (.buf 103 41 ((waitF b.out s).map hmR))))]:=fun c m=>⟨fun _=>(splitM_o b.out false s hl hd).fresh1 c m⟩
 repeat' (first|refine jx18 ?_|refine jy0 ?_ ?_|exact spF|refine spQ fun hq hq'=>?_|refine spN fun hn=>?_|fail)
 refine aws_says (says_pack2 (p:=1000) (a:=15) (b:=902) (lo:=0) rfl rfl rfl (by omega) rfl ((List.length_map _).trans (Nat.zero_add _).symm) (List.length_map _) (by decide) (by decide) (by decide)) ?_
 refine aws_says (says_toex (p:=1000) (f:=bxP ⟨waitF b.out s,b.ans,b.lost⟩) ⟨[],.inl rfl⟩ rfl) ?_
 as_aux_lemma=>
  repeat' (first|refine jx17 ?_|refine jy0 ?_ ?_|exact spF|refine spQ fun hq hq'=>?_|refine spN fun hn=>?_|fail)
  exact RetO.mk (ot1 rfl rfl finS_p rfl) ⟨.abs,trivial⟩
theorem obOut_i {c g n:Nat} {b:Bx} {s:Int}:OC Tryz.prog 14 [.o (.ptr c g 0),.p (.i s)] [(c,(n,some (bxM b)))] [] (n=g+1∧b.out.length≤1000000∧∀ h∈b.out,h.1.dig.length=32) (.p (.sl 40 ((goneF b.out s).map mR) false)) [(c,(n,some (bxM ⟨waitF b.out s,b.ans,b.lost⟩)))]:=⟨fun h=>by obtain ⟨rfl,h1,h2⟩:=h;exact (obOut_o g b s h1 h2).one c⟩
end Go.Proofs.YtkgploeegbmofaaGreat.Wi
namespace Go.Proofs.YtkgploeegbmofaaGreat.Wi
open Go Go.RowKit Go.Aw Go.Aw.Cart Go.Aw.Tree Go.Proofs.YtkgploeegbmofaaGreat.Ca Go.Proofs.YtkgploeegbmofaaGreat.Rg
set_option linter.unusedVariables false
set_option linter.unusedSimpArgs false
set_option maxRecDepth 8000
set_option maxHeartbeats 4000000
section
variable {C:Ctx} {o:Oper} {σ:St} {T:TypeId} {x y:Operand} {k:TK} {sz by_ ob g n i:Nat} {ty:TypeId} {v:Int}
theorem lop_buildH {x0 x1:Operand} {m:Msg} {fs:List (Nat × Nat)} {z:List Value} (ho:o.op=.build T #[(0,x0),(1,x1)]) (hF:TF C.P T fs) (hz:TZ C.P T z) (g0:σ.look x0=.a (mL m)) (g1:σ.look x1=.p (.i v)) (h0:fs[0]?=some (0,40)) (h1:fs[1]?=some (40,1)) (hzl:z.length=40+1) (hM:m.dig.length=32) (hz1:z.all (·.oneCell')=true) (hd:dOk C o.dst=true):LOp C o σ ⟨.a ((hmR (m,v)).map .p),[]⟩ (fun _=>false):=by
 rw [← hm_mk]
 exact lop_bld2 ho hF hz g0 g1 rfl h0 h1 hzl (mL_len' hM) rfl hz1 hd
theorem lop_st_hm {l:List Hm} (ho:o.op=.store T x y) (hT:TI C.P T k sz by_) (hdst:o.dst=none) (hx:σ.look x=.o (.ptr ob g (i * 41+40))) (hy:σ.look y=.p (.i v)) (hm:σ.mem ob=(n,some (.buf ty 41 (l.map hmR)))) (hs:sz=1) (hn:n=g+1) (hi:i < l.length) (hd:(l.getD i default).1.dig.length=32) :
  LOp C o σ ⟨.un,[(ob,(n,some (.buf ty 41 ((l.set i ((l.getD i default).1,v)).map hmR))))]⟩ (fun z=>z == ob):=by
 have hg:(l.map hmR)[i]?=some (hmR (l.getD i default)):=by rw [List.getElem?_map,List.getElem?_eq_getElem hi,getD_at hi];rfl
 have:=lop_store_rowp (C:=C) (o:=o) (d:=40) (part:=[.i v]) ho hdst hx hy rfl hs.symm hm hn hg (by omega)
 rw [hs] at this
 have hl:(mR (l.getD i default).1).length=40:=mR_len hd
 have e:(hmR (l.getD i default)).take 40++[PVal.i v]++(hmR (l.getD i default)).drop (40+1)=hmR ((l.getD i default).1,v):=by
  unfold hmR
  rw [List.take_left' hl,List.drop_of_length_le (by rw [List.length_append,hl];exact Nat.le_refl _),List.append_nil]
 rwa [e,← List.map_set] at this
theorem lop_st_ha {l:List Ha} (ho:o.op=.store T x y) (hT:TI C.P T k sz by_) (hdst:o.dst=none) (hx:σ.look x=.o (.ptr ob g (i * 4+3))) (hy:σ.look y=.p (.i v)) (hm:σ.mem ob=(n,some (.buf ty 4 (l.map haR)))) (hs:sz=1) (hn:n=g+1) (hi:i < l.length) :
  LOp C o σ ⟨.un,[(ob,(n,some (.buf ty 4 ((l.set i ((l.getD i default).1,v)).map haR))))]⟩ (fun z=>z == ob):=by
 have hg:(l.map haR)[i]?=some (haR (l.getD i default)):=by rw [List.getElem?_map,List.getElem?_eq_getElem hi,getD_at hi];rfl
 have:=lop_store_rowp (C:=C) (o:=o) (d:=3) (part:=[.i v]) ho hdst hx hy rfl hs.symm hm hn hg (by omega)
 rw [hs] at this
 have e:(haR (l.getD i default)).take 3++[PVal.i v]++(haR (l.getD i default)).drop (3+1)=haR ((l.getD i default).1,v):=rfl
 rwa [e,← List.map_set] at this
theorem lop_buildA {x0 x1:Operand} {a:Ans} {fs:List (Nat × Nat)} {z:List Value} (ho:o.op=.build T #[(0,x0),(1,x1)]) (hF:TF C.P T fs) (hz:TZ C.P T z) (g0:σ.look x0=aV a) (g1:σ.look x1=.p (.i v)) (h0:fs[0]?=some (0,3)) (h1:fs[1]?=some (3,1)) (hzl:z.length=3+1) (hz1:z.all (·.oneCell')=true) (hd:dOk C o.dst=true):LOp C o σ ⟨.a ((haR (a,v)).map .p),[]⟩ (fun _=>false):=
 lop_bld2 ho hF hz g0 g1 rfl h0 h1 hzl rfl rfl hz1 hd
end
section
open T4
theorem cloneN_w (l:List Int) (ex:Bool) (h:l.length≤1000000000):PCall Tryz.prog 50 [.p (.sl 1 (l.map iRw) ex)] (.p (.sl 1 (l.map iRw) false)):=by
 refine pcall_of Tryz.func50 rfl (fun w0 F S0 M0=>?_)
 repeat' (first|refine jx20 ?_|refine jy0 ?_ ?_|exact spF|refine spQ fun hq hq'=>?_|refine spN fun hn=>?_|fail)
 ·have e:l=[]:=List.eq_nil_of_length_eq_zero (by have:=congrArg List.length hn;rwa [List.length_map,List.length_nil] at this)
  subst e
  as_aux_lemma=>
   repeat' (first|refine jx3 ?_|refine jy0 ?_ ?_|exact spF|refine spQ fun hq hq'=>?_|refine spN fun hn=>?_|fail)
   exact rt1 rfl rfl (.one .nil) rfl
 ·repeat' (first|refine jx3 ?_|refine jy0 ?_ ?_|exact spF|refine spQ fun hq hq'=>?_|refine spN fun hn=>?_|fail)
  exact rt1 rfl rfl finS_p rfl
instance cloneN_i {l:List Int} {ex:Bool}:PC Tryz.prog 50 [.p (.sl 1 (l.map iRw) ex)] (l.length≤1000000000) (.p (.sl 1 (l.map iRw) false)):=⟨fun h=>cloneN_w l ex h⟩
end
namespace O3
theorem lopC {C:Ctx} {o:Oper} {σ:St} {e:Eff} {ro:Nat→Bool} (h:LOp C o σ e ro:=by
  first|(apply lop_buildH;(focus rfl);(focus exact inferInstance);(focus exact inferInstance);(focus rfl);(focus rfl);(focus rfl);(focus rfl);(focus rfl);(focus assumption);(focus decide);(focus rfl))|(apply lop_buildA;(focus rfl);(focus exact inferInstance);(focus exact inferInstance);(focus rfl);(focus rfl);(focus rfl);(focus rfl);(focus rfl);(focus decide);(focus rfl))|(apply lop_bsr (row:=haR _);(focus rfl);(focus exact inferInstance);(focus exact inferInstance);(focus exact inferInstance);(focus rfl);(focus rfl);(focus rfl);(focus decide);(focus decide);(focus rfl))|exact O1.lopC|fail):LOp C o σ e ro:=h
theorem stoH3 {C:Ctx} {o:Oper} {σ:St} {e:Eff} {ro:Nat→Bool} (h:LOp C o σ e ro:=by
  first|(apply lop_st_hm;(focus rfl);(focus exact inferInstance);(focus rfl);(focus rfl);(focus rfl);(focus rfl);(focus rfl);(focus rfl);(focus omega);(focus assumption))|(apply lop_st_ha;(focus rfl);(focus exact inferInstance);(focus rfl);(focus rfl);(focus rfl);(focus rfl);(focus rfl);(focus rfl);(focus omega))|exact O1.stoH|fail):LOp C o σ e ro:=h
section steps
variable {C:Ctx} {ops:Array Oper} {o:Oper} {rest:List Oper} {K:St→Prop} {σ:St} {e:Eff} {ro:Nat→Bool} {W:List (Nat × Nat)} {i:Nat}
theorem rnC {d:Nat} (hg:Guard ops σ o true:=by first|exact gd_n rfl rfl|exact gd_t rfl rfl rfl rfl|exact gd_t rfl rfl rfl (by assumption)) (hd:o.dst=some d:=by rfl) (h:LOp C o σ e ro:=by exact lopC) (hk:RunN C ops rest K (e.app (some d) σ)):RunN C ops (o::rest) K σ:=rn_any hg hd h hk
theorem rkC {d:Nat} (hg:Guard ops σ o true:=by first|exact gd_n rfl rfl|exact gd_t rfl rfl rfl rfl|exact gd_t rfl rfl rfl (by assumption)) (hd':o.dst=some d:=by rfl) (hd:dOk C o.dst=true:=by rfl) (h:LOp C o σ e ro:=by exact lopC) (hro:∀ x,ro x=true→okObj ops W i x=true:=by first|exact fun _=>ro_none|exact ro_one rfl|exact ro_k1 rfl|exact ro_one (by kernel_rfl)|exact ro_k1 (by kernel_rfl)|exact ro_kIn (by decide)) (hob:∀ p∈e.obj,(i,p.1)∈W:=by first|exact ob_none|exact ob_one (by decide)|decide) (hk:RunK C ops W (i+1) rest K (e.app (some d) σ)):RunK C ops W i (o::rest) K σ:=rk_wr hg hd' hd h hro hob hk
end steps
section steps
variable {C:Ctx} {ops:Array Oper} {o:Oper} {rest:List Oper} {K:St→Prop} {σ:St} {e:Eff} {ro:Nat→Bool} {W:List (Nat × Nat)} {i:Nat}
theorem rnSH (hg:Guard ops σ o true:=by first|exact gd_n rfl rfl|exact gd_t rfl rfl rfl rfl|exact gd_t rfl rfl rfl (by assumption)) (hd:o.dst=none:=by rfl) (h:LOp C o σ e ro:=by exact stoH3) (hk:RunN C ops rest K (e.app none σ)):RunN C ops (o::rest) K σ:=rn_sto hg hd h hk
theorem rkSH (hg:Guard ops σ o true:=by first|exact gd_n rfl rfl|exact gd_t rfl rfl rfl rfl|exact gd_t rfl rfl rfl (by assumption)) (hd':o.dst=none:=by rfl) (h:LOp C o σ e ro:=by exact stoH3) (hro:∀ x,ro x=true→okObj ops W i x=true:=by first|exact fun _=>ro_none|exact ro_one rfl|exact ro_one (by kernel_rfl)|exact ro_kIn (by decide)) (hob:∀ p∈e.obj,(i,p.1)∈W:=by first|exact ob_none|exact ob_one (by decide)|decide) (hk:RunK C ops W (i+1) rest K (e.app none σ)):RunK C ops W i (o::rest) K σ:=rk_sto hg hd' h hro hob hk
end steps
end O3
open O3
def tellB (b:Bx) (a:Ans) (k:Int):Bx:=if askF k=0 then ⟨b.out,b.ans++[(a,k)],b.lost⟩ else b
theorem obTell_o (n:Nat) (b:Bx) (a:Ans) (k:Int) (hl:b.ans.length < 500000) (hll:a.2.2.length≤1000000000):OCall Tryz.prog 18 [.o (.ptr 1000 n 0),aV a,.p (.i k)] (memL [(1000,(n+1,some (bxM b)))]) (.p (.i (askF k))) (memL [(1000,(n+1,some (bxM (tellB b a k))))]):=by
 refine ocall_of1 Tryz.func18 rfl (fun w0 F S0 M0=>?_)
 unfold tellB
 by_cases q:askF k=0
 ·have d1:decide (askF k≠0)=false:=decide_eq_false fun h=>h q
  rw [if_pos q,q]
  repeat' (first|refine jx17 ?_|refine jy0 ?_ ?_|exact spF|refine spQ fun hq hq'=>?_|refine spN fun hn=>?_|fail)
  refine aws_unex (p:=1000) (f:=bxP b) rfl fun ⟨P,hP⟩=>?_
  refine aws_says (says_unpack2 (p:=1000) (a:=901) (b:=902) (lo:=P.length) rfl rfl rfl (by decide) (by decide) (by decide) (bx_len P b.out) (List.length_map _)) ?_
  refine aws_draws [(9,902),(12,1000)] mixed (by kernel_rfl) ?_
  repeat' (first|refine jx21 ?_|refine jy1 ?_ ?_|exact spF|refine spQ fun hq hq'=>?_|fail)
  repeat' (first|refine jx18 ?_|refine jy0 ?_ ?_|exact spF|refine spQ fun hq hq'=>?_|refine spN fun hn=>?_|fail)
  refine aws_says (says_pack2 (p:=1000) (a:=901) (b:=902) (lo:=P.length) rfl rfl rfl rfl rfl (bx_le P b.out) (List.length_map _) (by decide) (by decide) (by decide)) ?_
  refine aws_says (says_toex (p:=1000) (f:=bxP ⟨b.out,b.ans++[(a,k)],b.lost⟩) ⟨P,hP⟩ rfl) ?_
  as_aux_lemma=>
   repeat' (first|refine jx17 ?_|refine jy0 ?_ ?_|exact spF|refine spQ fun hq hq'=>?_|refine spN fun hn=>?_|fail)
   exact RetO.mk (ot1 rfl rfl finS_p rfl) ⟨.abs,trivial⟩
 ·have d1:decide (askF k≠0)=true:=decide_eq_true q
  rw [if_neg q]
  as_aux_lemma=>
   repeat' (first|refine jx17 ?_|refine jy0 ?_ ?_|exact spF|refine spQ fun hq hq'=>?_|refine spN fun hn=>?_|fail)
   exact RetO.mk (ot1 rfl rfl finS_p rfl) ⟨.abs,trivial⟩
instance obTell_i {c g n:Nat} {b:Bx} {a:Ans} {k:Int}:OC Tryz.prog 18 [.o (.ptr c g 0),aV a,.p (.i k)] [(c,(n,some (bxM b)))] [] (n=g+1∧b.ans.length < 500000∧a.2.2.length≤1000000000) (.p (.i (askF k))) [(c,(n,some (bxM (tellB b a k))))]:=⟨fun h=>by obtain ⟨rfl,h1,h2⟩:=h;exact (obTell_o g b a k h1 h2).one c⟩
end Go.Proofs.YtkgploeegbmofaaGreat.Wi
