/- inputs in plain Lean: there and back, in one way alone -/
import Derived.Test.YtcbhmngagibhmaaGreatPRA33
import Derived.Test.YtcbhmngagibhmaaGreatPRC00
import Derived.Test.YtcbhmngagibhmaaGreatPRA06
import Derived.Test.YtcbhmngagibhmaaGreatPRA13
import Derived.Test.YtcbhmngagibhmaaGreatPRA16
namespace Go.Proofs.YtcbhmngagibhmaaGreat.Wi
open Go Go.RowKit Go.Aw Go.Aw.Cart Go.Aw.Tree Go.Proofs.YtcbhmngagibhmaaGreat.Ca Go.Proofs.YtcbhmngagibhmaaGreat.Rg
set_option linter.unusedVariables false
set_option linter.unusedSimpArgs false
structure Inp where
 kind:Int
 id:Int
 key:List Nat
 op:Op3
 draw:Nat
 msg:Msg
deriving Inhabited
def zeroI:Inp:=⟨0,0,[],(0,0,0),0,zeroM⟩
def opB (o:Op3):List Nat:=numI o.1++(numI o.2.1++intB o.2.2)
def opS:RS→Op3 × RS:=bindS (smallS 4) fun a=>bindS (smallS 60) fun b=>bindS intS fun c=>bindS (mustU (mayF (a,b,c))) fun _=>okS (a,b,c) (0,0,0)
theorem par_op:Par opS:=par_bind (par_small _) fun _=>par_bind (par_small _) fun _=>par_bind par_int fun _=>par_bind (par_must _) fun _=>par_ok _ _
def cliF (i:Int) (k:List Nat):Bool:=decide (1≤i)&&(decide (i≤1099511627776)&&keyR k)
def okI (x:Inp):Bool:=if x.kind=1 then cliF x.id x.key&&mayF x.op else if x.kind=2 then cliF x.id x.key else if x.kind=5 then rightM x.msg else decide (1≤x.kind)&&decide (x.kind≤8)
def ownI (x:Inp):Inp where
 kind:=x.kind
 id:=if x.kind=1∨x.kind=2 then x.id else 0
 key:=if x.kind=1∨x.kind=2 then x.key else []
 op:=if x.kind=1 then x.op else (0,0,0)
 draw:=if x.kind=4 then x.draw else 0
 msg:=if x.kind=5 then x.msg else zeroM
def sameI (a b:Inp):Bool:=decide (a.kind=b.kind)&&(decide (a.id=b.id)&&(decide (a.key=b.key)&&(decide (a.op=b.op)&&(decide (a.draw=b.draw)&&sameM a.msg b.msg))))
theorem sameI_iff {a b:Inp}:sameI a b=true↔a=b:=by
 obtain ⟨a1,a2,a3,a4,a5,a6⟩:=a
 obtain ⟨b1,b2,b3,b4,b5,b6⟩:=b
 unfold sameI
 simp only [Bool.and_eq_true,decide_eq_true_iff,sameM_iff,Inp.mk.injEq]
theorem sameI_refl (a:Inp):sameI a a=true:=sameI_iff.2 rfl
def rightI (x:Inp):Bool:=okI x&&sameI x (ownI x)
def bodyB (x:Inp):List Nat:=if x.kind=1 then numI x.id++(textB x.key++opB x.op) else if x.kind=2 then numI x.id++textB x.key else if x.kind=4 then numB x.draw else if x.kind=5 then textB (msgB x.msg) else []
def inpB (x:Inp):List Nat:=numI x.kind++bodyB x
def bodyS (k:Int):RS→Inp × RS:=
 if k=1 then bindS (smallS 1099511627776) fun i=>bindS (textS 20) fun key=>bindS opS fun o=>pureS ⟨k,i,key,o,0,zeroM⟩
 else if k=2 then bindS (smallS 1099511627776) fun i=>bindS (textS 20) fun key=>pureS ⟨k,i,key,(0,0,0),0,zeroM⟩
 else if k=4 then bindS numS fun d=>pureS ⟨k,0,[],(0,0,0),d,zeroM⟩
 else if k=5 then bindS (textS 16777216) fun b=>bindS (mustU (decide ((readM b).2=0))) fun _=>pureS ⟨k,0,[],(0,0,0),0,(readM b).1⟩
 else pureS ⟨k,0,[],(0,0,0),0,zeroM⟩
def inS:RS→Inp × RS:=bindS (smallS 8) bodyS
def readI (b:List Nat):Inp × Int:=if endS (inS (b,0)).2≠0∨rightI (inS (b,0)).1=false then (zeroI,3) else ((inS (b,0)).1,0)
/-! what stands behind changes nothing -/
/-! there and back -/
theorem may_in {o:Op3} (h:mayF o=true):(0≤o.1∧o.1≤4)∧(0≤o.2.1∧o.2.1≤60)∧(-1000≤o.2.2∧o.2.2≤1000):=by
 have:=of_decide_eq_true h
 omega
theorem op_back {o:Op3} (h:mayF o=true) (q:List Nat):opS (opB o++q,0)=(o,(q,0)):=by
 obtain ⟨⟨a1,a2⟩,⟨b1,b2⟩,c1,c2⟩:=may_in h
 have e:opB o++q=numI o.1++(numI o.2.1++(intB o.2.2++q)):=by unfold opB;simp only [List.append_assoc]
 rw [e]
 have hm:mayF (o.1,o.2.1,o.2.2)=true:=h
 simp only [opS,bindS,smallI_back (n:=o.1) (most:=4) a1 a2 (by decide),smallI_back (n:=o.2.1) (most:=60) b1 b2 (by decide),int_back (n:=o.2.2) (by omega),must_ok hm,okS]
 rfl
structure IIn (x:Inp):Prop where
 key:okB x.key
 kl:x.key.length≤100
 draw:x.draw < 18446744073709551616
 msg:MIn x.msg
 gr:greatL x.msg.kds=false
theorem msgB_few {m:Msg} (h:MIn m) (hr:rightM m=true) (hg:greatL m.kds=false):(msgB m).length≤900000:=by
 have ok:=right_ok hr
 have ho:=keys_iff.1 ok.kds
 have h30:=(greatL_no hg).1
 have hk:(m.kds.flatMap kdB).length≤20029 * m.kds.length:=flat_len fun k hk=>kdB_len (ho.key k hk) (h.kd k hk).vec (ho.cart k hk)
 have h1:(listB m.kds).length≤700000:=by
  have:=numB_le m.kds.length
  unfold listB
  rw [List.length_append]
  omega
 have h2:=nums_le (headM m)
 have h3:=nums_le m.pls
 have h4:=digs_le (l:=m.dgs) fun d hd=>(h.dg d hd).1
 have h5:=numB_le m.pls.length
 have h6:=numB_le m.dgs.length
 have h7:(if m.kind=1 then m.dig else []).length≤32:=by
  split
  ·rw [h.d32];exact Nat.le_refl _
  ·simp
 have h8:(headM m).length=5:=rfl
 have h9:=ok.pl
 have h10:=ok.dl
 unfold msgB msgH
 simp only [List.length_append]
 omega
theorem own_of {x:Inp} (h:rightI x=true):okI x=true∧ownI x=x:=by
 unfold rightI at h
 rw [Bool.and_eq_true] at h
 exact ⟨h.1,(sameI_iff.1 h.2).symm⟩
theorem cli_in {i:Int} {k:List Nat} (h:cliF i k=true):(1≤i∧i≤1099511627776)∧keyR k=true∧k.length≤20:=by
 unfold cliF at h
 rw [Bool.and_eq_true,Bool.and_eq_true,decide_eq_true_iff,decide_eq_true_iff] at h
 exact ⟨⟨h.1,h.2.1⟩,h.2.2,(of_decide_eq_true h.2.2).1.2⟩
theorem kind_in {x:Inp} (h:okI x=true):1≤x.kind∧x.kind≤8:=by
 unfold okI at h
 split at h
 ·omega
 split at h
 ·omega
 split at h
 ·omega
 ·rw [Bool.and_eq_true,decide_eq_true_iff,decide_eq_true_iff] at h;exact h
section
attribute [local irreducible] smallS textS numS opS readM msgB textB numI numB opB zeroM intS
theorem body_back {x:Inp} (hi:IIn x) (hr:rightI x=true) (q:List Nat):bodyS x.kind (bodyB x++q,0)=(x,(q,0)):=by
 obtain ⟨ho,hw⟩:=own_of hr
 obtain ⟨k,i,key,o,d,m⟩:=x
 have h1:=hi.draw
 have h2:=hi.msg
 have h3:=hi.gr
 clear hi hr
 unfold ownI at hw
 rw [Inp.mk.injEq] at hw
 obtain ⟨-,w2,w3,w4,w5,w6⟩:=hw
 unfold okI at ho
 unfold bodyS bodyB
 dsimp only at *
 by_cases k1:k=1
 ·rw [if_pos k1] at ho w4 ⊢
  rw [if_pos k1]
  rw [if_neg (by omega)] at w5 w6
  rw [Bool.and_eq_true] at ho
  obtain ⟨⟨a1,a2⟩ , -,a3⟩:=cli_in ho.1
  rw [← w5,← w6]
  simp only [List.append_assoc,bindS,smallI_back (n:=i) (most:=1099511627776) (by omega) a2 (by decide),text_back (b:=key) (most:=20) (by omega) (by decide),op_back ho.2,pureS]
 rw [if_neg k1] at ho w4 ⊢
 rw [if_neg k1]
 by_cases k2:k=2
 ·rw [if_pos k2] at ho ⊢
  rw [if_pos k2]
  rw [if_neg (by omega)] at w5 w6
  obtain ⟨⟨a1,a2⟩ , -,a3⟩:=cli_in ho
  rw [← w4,← w5,← w6]
  simp only [List.append_assoc,bindS,smallI_back (n:=i) (most:=1099511627776) (by omega) a2 (by decide),text_back (b:=key) (most:=20) (by omega) (by decide),pureS]
 rw [if_neg k2] at ho ⊢
 rw [if_neg k2]
 rw [if_neg (by omega)] at w2 w3
 rw [← w2,← w3,← w4]
 by_cases k4:k=4
 ·rw [if_pos k4]
  rw [if_pos k4]
  rw [if_neg (by omega)] at w6
  rw [← w6]
  simp only [bindS,num_back h1,pureS]
 rw [if_neg k4] at w5 ⊢
 rw [if_neg k4]
 rw [← w5]
 by_cases k5:k=5
 ·rw [if_pos k5] at ho ⊢
  rw [if_pos k5]
  have hl:=msgB_few h2 ho h3
  have hb:=mread_back h2 ho
  have hd:decide ((readM (msgB m)).2=0)=true:=by rw [hb];rfl
  simp only [bindS,text_back (b:=msgB m) (most:=16777216) (by omega) (by decide)]
  rw [must_ok hd,hb]
  rfl
 rw [if_neg k5] at w6 ⊢
 rw [if_neg k5]
 rw [← w6]
 simp only [List.nil_append,pureS]
theorem in_back {x:Inp} (hi:IIn x) (hr:rightI x=true) (q:List Nat):inS (inpB x++q,0)=(x,(q,0)):=by
 obtain ⟨k1,k2⟩:=kind_in (own_of hr).1
 unfold inS inpB bindS
 rw [List.append_assoc,smallI_back (n:=x.kind) (most:=8) (by omega) k2 (by decide)]
 exact body_back hi hr q
end
theorem iread_back {x:Inp} (hi:IIn x) (hr:rightI x=true):readI (inpB x)=(x,0):=by
 have h:=in_back hi hr []
 rw [List.append_nil] at h
 unfold readI
 rw [h]
 dsimp only
 rw [hr,if_neg (by simp [endS])]
theorem opB_ok (o:Op3):okB (opB o):=okB_app (numB_ok _) (okB_app (numB_ok _) (numB_ok _))
theorem textB_ok {b:List Nat} (h:okB b):okB (textB b):=okB_app (numB_ok _) h
theorem inpB_ok {x:Inp} (h:IIn x):okB (inpB x):=by
 unfold inpB bodyB
 refine okB_app (numB_ok _) ?_
 split
 ·exact okB_app (numB_ok _) (okB_app (textB_ok h.key) (opB_ok _))
 split
 ·exact okB_app (numB_ok _) (textB_ok h.key)
 split
 ·exact numB_ok _
 split
 ·exact textB_ok (msgB_ok h.msg)
 ·exact fun c hc=>by cases hc
theorem opB_le (o:Op3):(opB o).length≤27:=by
 have h1:=numI_len o.1
 have h2:=numI_len o.2.1
 have h3:=intB_len o.2.2
 unfold opB
 rw [List.length_append,List.length_append]
 omega
theorem inpB_le {x:Inp} (h:IIn x) (hr:rightI x=true):(inpB x).length≤1000000:=by
 have ho:=(own_of hr).1
 have h1:=numI_len x.kind
 have h2:=numI_len x.id
 have h3:=textB_le x.key
 have h4:=opB_le x.op
 have h5:=numB_le x.draw
 have h6:=textB_le (msgB x.msg)
 have h7:=h.kl
 unfold inpB bodyB
 unfold okI at ho
 rw [List.length_append]
 split
 ·rw [List.length_append,List.length_append];omega
 split
 ·rw [List.length_append];omega
 split
 ·omega
 rename_i k1 k2 k4
 rw [if_neg k1,if_neg k2] at ho
 split
 ·rename_i k5
  rw [if_pos k5] at ho
  have:=msgB_few h.msg ho h.gr
  omega
 ·simp;omega
end Go.Proofs.YtcbhmngagibhmaaGreat.Wi
namespace Go.Proofs.YtcbhmngagibhmaaGreat.Ca
open Go Go.RowKit Go.Aw Go.Aw.Cart Go.Aw.Ord Go.Sort
set_option linter.unusedVariables false
set_option linter.unusedSimpArgs false
set_option maxRecDepth 8000
set_option maxHeartbeats 4000000
open J1
end Go.Proofs.YtcbhmngagibhmaaGreat.Ca
namespace Go.Proofs.YtcbhmngagibhmaaGreat.Ca
open Go Go.RowKit Go.Aw Go.Aw.Cart Go.Aw.Ord Go.Sort
set_option linter.unusedVariables false
set_option linter.unusedSimpArgs false
set_option maxRecDepth 8000
set_option maxHeartbeats 4000000
theorem ro_k1 {ops:Array Oper} {W:List (Nat × Nat)} {i c:Nat} {m:Nat × Option MO} (h:okObj ops W i c=true):∀ x,kIn [(c,m)] x=true→okObj ops W i x=true:=fun x hx=>by
 simp only [kIn,Bool.or_false] at hx
 rw [Nat.eq_of_beq_eq_true hx];exact h
theorem map_of {row:List PVal} {ds:List AC} (h:All2 (fun (p:PVal) (c:AC)=>AC.p p=c) row ds):row.map AC.p=ds:=by
 refine List.ext_getElem (by simp [h.1]) fun i h1 h2=>?_
 have h3:i < row.length:=by simpa using h1
 have:=h.2 i row[i] ds[i] (by simp [h3]) (by simp [h2])
 simpa using this
theorem lop_ld_atn {C:Ctx} {o:Oper} {σ:St} {T:TypeId} {x:Operand} {k:TK} {sz by_:Nat} {row:List PVal} {ds:List AC} (ho:o.op=.load T x) (hT:TI C.P T k sz by_) (hx:σ.look x=.p (.at_ row)) (hk:k.agg=true) (h0:0 < sz) (hs:row.length=sz) (hds:All2 (fun (p:PVal) (c:AC)=>AC.p p=c) row ds) (hd:dOk C o.dst=true):LOp C o σ ⟨.a ds,[]⟩ (fun _=>false):=by
 subst hs
 have:=lop_load_at (o:=o) ho hx hk h0 (by simp) hd
 rw [List.take_length,map_of hds] at this
 exact this
theorem lop_bsb {C:Ctx} {o:Oper} {σ:St} {T e:TypeId} {n:Nat} {parts:Array (Nat × Operand)} {sz by_:Nat} {ke:TK} {sze be:Nat} {z:List Value} {ps:List (Nat × List PVal)} {rows:List (List PVal)} (ho:o.op=.buildSlice T n parts) (hT:TI C.P T (.slice e) sz by_) (he:TI C.P e ke sze be) (hz:TZ C.P e z)
  (hp:All2 (fun (x:Nat × Operand) (p:Nat × List PVal)=>x.1=p.1∧p.2.length=sze∧∃ s,σ.look x.2=.s s∧s.cells=p.2.map .p) parts.toList ps)
  (hi:ps.map (·.1)=List.range n) (hz0:0 < sze) (hsmall:n * sze≤2 ^ 24) (hr:All2 (fun (p:Nat × List PVal) (r:List PVal)=>p.2=r) ps rows) (hd:dOk C o.dst=true):LOp C o σ ⟨.p (.sl sze rows true),[]⟩ (fun _=>false):=by
 refine lop_bsa ho hT he hz hp hi hz0 hsmall ?_ hd
 refine List.ext_getElem (by simp [rowsOf,hr.1]) fun i h1 h2=>?_
 have h3:i < ps.length:=by simpa [rowsOf] using h1
 have:=hr.2 i ps[i] rows[i] (by simp [h3]) (by simp [h2])
 simpa [rowsOf] using this
namespace J3
theorem lopC {C:Ctx} {o:Oper} {σ:St} {e:Eff} {ro:Nat→Bool} (h:LOp C o σ e ro:=by
  first
   | (apply lop_bsb;(focus rfl);(focus exact inferInstance);(focus exact inferInstance);(focus exact inferInstance);(focus repeat' (first|exact All2.nil|(apply bs_cons;(focus rfl);(focus rfl);(focus rfl))));(focus rfl);(focus decide);(focus first|decide|omega);(focus repeat' (first|exact All2.nil|(apply All2.cons;(focus rfl))));(focus rfl))
   | (apply gField;(focus rfl);first|exact lop_fieldAddr_p rfl rfl (by decide) rfl rfl|exact lop_fieldAddr_bx rfl rfl (by decide) rfl rfl)
      | (apply lop_bsa;(focus rfl);(focus exact inferInstance);(focus exact inferInstance);(focus exact inferInstance);(focus repeat' (first|exact All2.nil|(apply bs_cons;(focus rfl);(focus rfl);(focus rfl))));(focus rfl);(focus decide);(focus first|decide|omega);(focus rfl);(focus rfl))
      | (apply lop_mfa1;(focus rfl);(focus rfl);(focus rfl);(focus rfl);(focus rfl);(focus rfl))
      | (apply lop_mfa2;(focus rfl);(focus rfl);(focus rfl);(focus rfl);(focus rfl);(focus rfl);(focus rfl);(focus rfl);(focus rfl);(focus decide);(focus rfl))
      | (apply lop_mfa3;(focus rfl);(focus rfl);(focus rfl);(focus rfl);(focus rfl);(focus rfl);(focus rfl);(focus rfl);(focus rfl);(focus rfl);(focus rfl);(focus rfl);(focus rfl);(focus decide);(focus decide);(focus decide);(focus rfl))
      | (apply gLoad;(focus rfl);apply lop_ld_bxp;(focus rfl);(focus exact inferInstance);(focus rfl);(focus rfl);(focus rfl);(focus rfl);(focus rfl))
   | (apply gLoad;(focus rfl);apply lop_ld_atn;(focus rfl);(focus exact inferInstance);(focus rfl);(focus rfl);(focus decide);(focus rfl);(focus repeat' (first|exact All2.nil|(apply All2.cons;(focus rfl))));(focus rfl))
   | exact lopV
   | (apply lop_call1;(focus rfl);(focus exact inferInstance);(focus exact lk_cart rfl);(focus exact inferInstance);(focus exact inferInstance);(focus first|exact True.intro|assumption|rfl|omega|((repeat' (first|assumption|refine And.intro ?_ ?_|omega|rfl));done)|fail);(focus rfl))
      | (apply lop_call2;(focus rfl);(focus exact inferInstance);(focus exact lk_cart rfl);(focus exact lk_cart rfl);(focus exact inferInstance);(focus exact inferInstance);(focus first|exact True.intro|assumption|rfl|omega|((repeat' (first|assumption|refine And.intro ?_ ?_|omega|rfl));done)|fail);(focus rfl))
      | (apply lop_call2;(focus rfl);(focus exact inferInstance);(focus exact lk_cart rfl);(focus first|exact lk_m1 rfl|exact lk_m2 rfl|exact lk_m3 rfl|exact lk_o rfl|exact lk_a2 rfl|exact lk_a3 rfl|exact lk_a4 rfl|exact lk_a1 rfl|exact lk_a5 rfl|exact lk_a6 rfl|exact lk_a7 rfl|exact lk_a8 rfl|exact lk_a rfl);(focus exact inferInstance);(focus exact inferInstance);(focus first|exact True.intro|assumption|rfl|omega|((repeat' (first|assumption|refine And.intro ?_ ?_|omega|rfl));done)|fail);(focus rfl))
   | fail):LOp C o σ e ro:=h
section steps
variable {C:Ctx} {ops:Array Oper} {o:Oper} {rest:List Oper} {K:St→Prop} {σ:St} {e:Eff} {ro:Nat→Bool} {W:List (Nat × Nat)} {i:Nat}
theorem rnC {d:Nat} (hg:Guard ops σ o true:=by first|exact gd_n rfl rfl|exact gd_t rfl rfl rfl rfl|exact gd_t rfl rfl rfl (by assumption)) (hd:o.dst=some d:=by rfl) (h:LOp C o σ e ro:=by exact lopC) (hk:RunN C ops rest K (e.app (some d) σ)):RunN C ops (o::rest) K σ:=rn_any hg hd h hk
theorem rkC {d:Nat} (hg:Guard ops σ o true:=by first|exact gd_n rfl rfl|exact gd_t rfl rfl rfl rfl|exact gd_t rfl rfl rfl (by assumption)) (hd':o.dst=some d:=by rfl) (hd:dOk C o.dst=true:=by rfl) (h:LOp C o σ e ro:=by exact lopC) (hro:∀ x,ro x=true→okObj ops W i x=true:=by first|exact fun _=>ro_none|exact ro_one rfl|exact ro_k1 rfl|exact ro_one (by kernel_rfl)|exact ro_k1 (by kernel_rfl)|exact ro_kIn (by decide)) (hob:∀ p∈e.obj,(i,p.1)∈W:=by first|exact ob_none|exact ob_one (by decide)|decide) (hk:RunK C ops W (i+1) rest K (e.app (some d) σ)):RunK C ops W i (o::rest) K σ:=rk_wr hg hd' hd h hro hob hk
end steps
end J3
open J3
theorem fin9 {σ:St} {K:Nat→Bool} {p0 p1 p2 p3 p4 p5 p6 p7:PVal}:All2 (FinC σ K) [.p p0,.p p1,.p p2,.p p3,.p p4,.p p5,.p p6,.p p7,.p (.v (.slice none 0 0))] [.p p0,.p p1,.p p2,.p p3,.p p4,.p p5,.p p6,.p p7,.p (.sl 4 (([]:List Ent).map eR) false)]:=
 .cons .p (.cons .p (.cons .p (.cons .p (.cons .p (.cons .p (.cons .p (.cons .p (.cons .nil .nil))))))))
/-! any many -/
theorem allF_err {l:List Crt}:∀ {i j:Nat},i≤j→(allF l i).2≠0→allF l j=allF l i
 | i,0,h,he=>by rw [show i=0 by omega]
 | i,j+1,h,he=>by
  by_cases e:i=j+1
  ·rw [e]
  ·have:=allF_err (i:=i) (j:=j) (by omega) he
   rw [allF,this,if_neg he]
structure Far (l:List Crt) (i:Nat) (r:Crt):Prop where
 is:allF l i=(r,0)
 v8:r.1.length=8
 pos:∀ n∈r.1,0≤n
 few:r.2.length≤400
theorem Far.zero (l:List Crt):Far l 0 (zeroV,[]):=⟨rfl,rfl,by decide,by simp⟩
theorem Far.fail {l:List Crt} {i:Nat} {r:Crt} (h:Far l i r) (hi:i < l.length) (he:(twoF r (l.getD i default)).2≠0):allF l l.length=((zeroV,[]),(twoF r (l.getD i default)).2):=by
 have e:allF l (i+1)=((zeroV,[]),(twoF r (l.getD i default)).2):=by rw [allF,h.is,if_pos rfl,if_neg he]
 rw [allF_err (i:=i+1) (by omega) (by rw [e];exact he),e]
end Go.Proofs.YtcbhmngagibhmaaGreat.Ca
namespace Go.Proofs.YtcbhmngagibhmaaGreat.Cd
open Go Go.RowKit Go.Aw Go.Aw.Cart Go.Aw.Ord Go.Proofs.YtcbhmngagibhmaaGreat.Ca
set_option linter.unusedVariables false
set_option linter.unusedSimpArgs false
set_option maxRecDepth 8000
set_option maxHeartbeats 4000000
namespace R7
theorem lopC {C:Ctx} {o:Oper} {σ:St} {e:Eff} {ro:Nat→Bool} (h:LOp C o σ e ro:=by
  first|(apply lop_ap_pair;(focus rfl);(focus exact inferInstance);(focus exact inferInstance);(focus exact inferInstance);(focus rfl);(focus rfl);(focus rfl);(focus rfl);(focus rfl);(focus rfl);(focus first|(simp only [maxLen,List.length_append,List.length_cons,List.length_nil,List.length_take,List.length_drop,List.length_map];omega)|omega);(focus first|(simp only [maxLen,List.length_append,List.length_cons,List.length_nil,List.length_take,List.length_drop,List.length_map];omega)|omega);(focus rfl))|exact Go.Proofs.YtcbhmngagibhmaaGreat.Cr.lopC|fail):LOp C o σ e ro:=h
section steps
variable {C:Ctx} {ops:Array Oper} {o:Oper} {rest:List Oper} {K:St→Prop} {σ:St} {e:Eff} {ro:Nat→Bool} {W:List (Nat × Nat)} {i:Nat}
theorem rnC {d:Nat} (hg:Guard ops σ o true:=by first|exact gd_n rfl rfl|exact gd_t rfl rfl rfl rfl|exact gd_t rfl rfl rfl (by assumption)) (hd:o.dst=some d:=by rfl) (h:LOp C o σ e ro:=by exact lopC) (hk:RunN C ops rest K (e.app (some d) σ)):RunN C ops (o::rest) K σ:=rn_any hg hd h hk
theorem rkC {d:Nat} (hg:Guard ops σ o true:=by first|exact gd_n rfl rfl|exact gd_t rfl rfl rfl rfl|exact gd_t rfl rfl rfl (by assumption)) (hd':o.dst=some d:=by rfl) (hd:dOk C o.dst=true:=by rfl) (h:LOp C o σ e ro:=by exact lopC) (hro:∀ x,ro x=true→okObj ops W i x=true:=by first|exact fun _=>ro_none|exact ro_one rfl|exact ro_k1 rfl|exact ro_one (by kernel_rfl)|exact ro_k1 (by kernel_rfl)|exact ro_kIn (by decide)) (hob:∀ p∈e.obj,(i,p.1)∈W:=by first|exact ob_none|exact ob_one (by decide)|decide) (hk:RunK C ops W (i+1) rest K (e.app (some d) σ)):RunK C ops W i (o::rest) K σ:=rk_wr hg hd' hd h hro hob hk
end steps
end R7
open R7
end Go.Proofs.YtcbhmngagibhmaaGreat.Cd
namespace Go.Proofs.YtcbhmngagibhmaaGreat.Ct
open Go Go.RowKit Go.Aw Go.Aw.Cart Go.Aw.Ord Go.Proofs.YtcbhmngagibhmaaGreat.Ca
set_option linter.unusedVariables false
set_option linter.unusedSimpArgs false
set_option maxRecDepth 8000
set_option maxHeartbeats 4000000
theorem wrap64 {n:Int}:IntKind.u64.wrap n=n % 18446744073709551616:=by simp [IntKind.wrap,IntKind.bits,IntKind.signed]
theorem lop_conv64 {C:Ctx} {o:Oper} {σ:St} {s d:TypeId} {x:Operand} {sz by_:Nat} {ks:TK} {sz' by':Nat} {k:IntKind} {n:Int} (ho:o.op=.convert s d x) (hT:TI C.P d (.int .u64) sz by_) (hS:TI C.P s ks sz' by') (hx:σ.look x=.p (.v (.int k n))) (hd:dOk C o.dst=true) :
  LOp C o σ ⟨.p (.v (.int .u64 (n % 18446744073709551616))),[]⟩ (fun _=>false):=by
 have:=lop_conv ho hx hd
 rwa [wrap64] at this
theorem lop_sub64 {C:Ctx} {o:Oper} {σ:St} {t t':TypeId} {x y:Operand} {m n r:Int} (ho:o.op=.binOp .sub t x y t') (hx:σ.look x=.p (.v (.int .u64 m))) (hy:σ.look y=.p (.v (.int .u64 n))) (hr:(m - n) % 18446744073709551616=r) (hd:dOk C o.dst=true) :
  LOp C o σ ⟨.p (.v (.int .u64 r)),[]⟩ (fun _=>false):=by
 have:=lop_sub ho hx hy hd
 rwa [wrap64,hr] at this
namespace R8
theorem lopC {C:Ctx} {o:Oper} {σ:St} {e:Eff} {ro:Nat→Bool} (h:LOp C o σ e ro:=by
  first|(apply lop_conv64;(focus rfl);(focus exact inferInstance);(focus exact inferInstance);(focus rfl);(focus rfl))|(apply lop_sub64;(focus rfl);(focus rfl);(focus rfl);(focus assumption);(focus rfl))|exact Go.Proofs.YtcbhmngagibhmaaGreat.Cr.lopC|fail):LOp C o σ e ro:=h
section steps
variable {C:Ctx} {ops:Array Oper} {o:Oper} {rest:List Oper} {K:St→Prop} {σ:St} {e:Eff} {ro:Nat→Bool} {W:List (Nat × Nat)} {i:Nat}
theorem rnC {d:Nat} (hg:Guard ops σ o true:=by first|exact gd_n rfl rfl|exact gd_t rfl rfl rfl rfl|exact gd_t rfl rfl rfl (by assumption)) (hd:o.dst=some d:=by rfl) (h:LOp C o σ e ro:=by exact lopC) (hk:RunN C ops rest K (e.app (some d) σ)):RunN C ops (o::rest) K σ:=rn_any hg hd h hk
theorem rkC {d:Nat} (hg:Guard ops σ o true:=by first|exact gd_n rfl rfl|exact gd_t rfl rfl rfl rfl|exact gd_t rfl rfl rfl (by assumption)) (hd':o.dst=some d:=by rfl) (hd:dOk C o.dst=true:=by rfl) (h:LOp C o σ e ro:=by exact lopC) (hro:∀ x,ro x=true→okObj ops W i x=true:=by first|exact fun _=>ro_none|exact ro_one rfl|exact ro_one (by kernel_rfl)|exact ro_kIn (by decide)) (hob:∀ p∈e.obj,(i,p.1)∈W:=by first|exact ob_none|exact ob_one (by decide)|decide) (hk:RunK C ops W (i+1) rest K (e.app (some d) σ)):RunK C ops W i (o::rest) K σ:=rk_wr hg hd' hd h hro hob hk
end steps
end R8
open R8
end Go.Proofs.YtcbhmngagibhmaaGreat.Ct
namespace Go.Proofs.YtcbhmngagibhmaaGreat.Cv
open Go Go.RowKit Go.Aw Go.Aw.Cart Go.Aw.Ord Go.Proofs.YtcbhmngagibhmaaGreat.Ca
set_option linter.unusedVariables false
set_option linter.unusedSimpArgs false
set_option maxRecDepth 8000
set_option maxHeartbeats 4000000
namespace R9
theorem lopC {C:Ctx} {o:Oper} {σ:St} {e:Eff} {ro:Nat→Bool} (h:LOp C o σ e ro:=by
  first
   | exact Go.Proofs.YtcbhmngagibhmaaGreat.Cd.R7.lopC
   | (apply lop_call1;(focus rfl);(focus exact inferInstance);(focus exact lk_cart rfl);(focus exact inferInstance);(focus exact inferInstance);(focus first|exact True.intro|assumption|rfl|omega|((repeat' (first|assumption|refine And.intro ?_ ?_|omega|rfl));done)|fail);(focus rfl))
      | (apply lop_call2;(focus rfl);(focus exact inferInstance);(focus exact lk_cart rfl);(focus exact lk_cart rfl);(focus exact inferInstance);(focus exact inferInstance);(focus first|exact True.intro|assumption|rfl|omega|((repeat' (first|assumption|refine And.intro ?_ ?_|omega|rfl));done)|fail);(focus rfl))
      | (apply lop_call2;(focus rfl);(focus exact inferInstance);(focus exact lk_cart rfl);(focus first|exact lk_m1 rfl|exact lk_m2 rfl|exact lk_m3 rfl|exact lk_o rfl|exact lk_a2 rfl|exact lk_a3 rfl|exact lk_a4 rfl|exact lk_a1 rfl|exact lk_a5 rfl|exact lk_a6 rfl|exact lk_a7 rfl|exact lk_a8 rfl|exact lk_a rfl);(focus exact inferInstance);(focus exact inferInstance);(focus first|exact True.intro|assumption|rfl|omega|((repeat' (first|assumption|refine And.intro ?_ ?_|omega|rfl));done)|fail);(focus rfl))
   | fail):LOp C o σ e ro:=h
section steps
variable {C:Ctx} {ops:Array Oper} {o:Oper} {rest:List Oper} {K:St→Prop} {σ:St} {e:Eff} {ro:Nat→Bool} {W:List (Nat × Nat)} {i:Nat}
theorem rnC {d:Nat} (hg:Guard ops σ o true:=by first|exact gd_n rfl rfl|exact gd_t rfl rfl rfl rfl|exact gd_t rfl rfl rfl (by assumption)) (hd:o.dst=some d:=by rfl) (h:LOp C o σ e ro:=by exact lopC) (hk:RunN C ops rest K (e.app (some d) σ)):RunN C ops (o::rest) K σ:=rn_any hg hd h hk
theorem rkC {d:Nat} (hg:Guard ops σ o true:=by first|exact gd_n rfl rfl|exact gd_t rfl rfl rfl rfl|exact gd_t rfl rfl rfl (by assumption)) (hd':o.dst=some d:=by rfl) (hd:dOk C o.dst=true:=by rfl) (h:LOp C o σ e ro:=by exact lopC) (hro:∀ x,ro x=true→okObj ops W i x=true:=by first|exact fun _=>ro_none|exact ro_one rfl|exact ro_k1 rfl|exact ro_one (by kernel_rfl)|exact ro_k1 (by kernel_rfl)|exact ro_kIn (by decide)) (hob:∀ p∈e.obj,(i,p.1)∈W:=by first|exact ob_none|exact ob_one (by decide)|decide) (hk:RunK C ops W (i+1) rest K (e.app (some d) σ)):RunK C ops W i (o::rest) K σ:=rk_wr hg hd' hd h hro hob hk
end steps
end R9
open R9
end Go.Proofs.YtcbhmngagibhmaaGreat.Cv
namespace Go.Proofs.YtcbhmngagibhmaaGreat.Ca
open Go Go.RowKit Go.Aw Go.Aw.Cart Go.Aw.Ord Go.Sort
set_option linter.unusedVariables false
set_option linter.unusedSimpArgs false
abbrev Evt:=Int × Int × Int × Dot × List Dot
def stL (o:Op3) (l:List Ent):List Ent:=l.filter fun e=>!goneF o e
def goL (o:Op3) (l:List Ent):List Ent:=l.filter fun e=>goneF o e
def offF (o:Op3) (l:List Ent):List Dot:=liveF (goL o l)
def addsF (o:Op3):Bool:=decide (o.1=1∨o.1=2)
def newD (v:List Int) (nd:Int):Dot:=(nd,getF v nd+1)
def newE (v:List Int) (nd:Int) (o:Op3):Ent:=(o.2.1,nd,getF v nd+1,o.2.2)
def zeroE:Evt:=(0,0,0,(0,0),[])
def doF (c:Crt) (nd:Int) (o:Op3):(Crt × Evt) × Int:=
 if rightF c.1 c.2=false then (((zeroV,[]),zeroE),3) else
 if mayF o=false then (((zeroV,[]),zeroE),1) else
 if nodeF nd=false then (((zeroV,[]),zeroE),11) else
 if addsF o=false then
  (if (offF o c.2).length=0 then (((zeroV,[]),zeroE),4) else (((c.1,stL o c.2),(o.1,0,0,(0,0),offF o c.2)),0)) else
 if getF c.1 nd=18446744073709551615 then (((zeroV,[]),zeroE),13) else
 if 40≤(stL o c.2).length then (((zeroV,[]),zeroE),5) else
 (((withF c.1 (newD c.1 nd),sortE (stL o c.2++[newE c.1 nd o])),(o.1,o.2.1,o.2.2,newD c.1 nd,offF o c.2)),0)
structure Did (c:Crt) (nd:Int) (o:Op3):Prop where
 ok:Ok c.1 c.2
 may:mayF o=true
 node:nodeF nd=true
 is:(addsF o=false∧0 < (offF o c.2).length∧doF c nd o=(((c.1,stL o c.2),(o.1,0,0,(0,0),offF o c.2)),0))∨
  (addsF o=true∧getF c.1 nd≠18446744073709551615∧(stL o c.2).length < 40∧doF c nd o=(((withF c.1 (newD c.1 nd),sortE (stL o c.2++[newE c.1 nd o])),(o.1,o.2.1,o.2.2,newD c.1 nd,offF o c.2)),0))
theorem Ok.part {v:List Int} {l:List Ent} (h:Ok v l) (p:Ent→Bool):Ok v (l.filter p) where
 few:=Nat.le_trans (List.length_filter_le _ _) h.few
 up:=h.up.sublist List.filter_sublist
 ent e he:=h.ent e (List.mem_filter.1 he).1
 has e he:=h.has e (List.mem_filter.1 he).1
 one e he f hf hd:=h.one e (List.mem_filter.1 he).1 f (List.mem_filter.1 hf).1 hd
theorem set_get {v:List Int} {i j:Nat} {x:Int} (hi:i < v.length):(v.set i x).getD j default=if i=j then x else v.getD j default:=by
 rw [List.getD_eq_getElem?_getD,List.getElem?_set]
 by_cases e:i=j
 ·subst e;rw [if_pos rfl,if_pos hi,if_pos rfl];rfl
 ·rw [if_neg e,if_neg e,← List.getD_eq_getElem?_getD]
theorem with_is {v:List Int} {nd:Int} (hn:nodeF nd=true):withF v (newD v nd)=v.set (nd - 1).toNat (getF v nd+1):=by
 have h:=of_decide_eq_true hn
 have e:getF v nd=v.getD (nd - 1).toNat default:=by unfold getF;rw [if_pos h]
 unfold withF newD
 rw [if_pos hn]
 simp only
 rw [← e,if_pos (by omega)]
theorem with_get {v:List Int} {nd:Int} (hv:v.length=8) (hn:nodeF nd=true) (n:Int):getF (withF v (newD v nd)) n=if n=nd then getF v nd+1 else getF v n:=by
 have h:=of_decide_eq_true hn
 rw [with_is hn]
 by_cases hk:1≤n∧n≤8
 ·have e1:getF (v.set (nd - 1).toNat (getF v nd+1)) n=(v.set (nd - 1).toNat (getF v nd+1)).getD (n - 1).toNat default:=by unfold getF;rw [if_pos hk]
  have e2:getF v n=v.getD (n - 1).toNat default:=by unfold getF;rw [if_pos hk]
  rw [e1,set_get (by omega),e2]
  by_cases e:n=nd
  ·rw [if_pos (by omega),if_pos e]
  ·rw [if_neg (by omega),if_neg e]
 ·have e1:∀ w:List Int,getF w n=0:=fun w=>by unfold getF;rw [if_neg hk]
  rw [e1,e1,if_neg (by omega)]
theorem with_has {v:List Int} {nd:Int} (hv:v.length=8) (hb:∀ n∈v,0≤n∧n < 18446744073709551616) (hn:nodeF nd=true) (d:Dot):hasF (withF v (newD v nd)) d=(hasF v d||decide (d=newD v nd)):=by
 obtain ⟨g1,g2⟩:=getF_in hb nd
 have h:=of_decide_eq_true hn
 unfold hasF
 rw [with_get hv hn,Bool.eq_iff_iff]
 simp only [Bool.and_eq_true,Bool.or_eq_true,decide_eq_true_eq]
 obtain ⟨a,b⟩:=d
 unfold newD dotF
 simp only [decide_eq_true_eq,Prod.mk.injEq]
 by_cases e:a=nd
 ·subst e
  rw [if_pos rfl];omega
 ·rw [if_neg e];omega
section
variable {c:Crt} {nd:Int} {o:Op3} (hc:c.1.length=8) (hb:∀ n∈c.1,0≤n∧n < 18446744073709551616)
include hc hb in
theorem Did.has (h:Did c nd o) (d:Dot) (hd:hasF c.1 d=true):hasF (doF c nd o).1.1.1 d=true:=by
 rcases h.is with ⟨h1,h2,e⟩ | ⟨h1,h2,h3,e⟩
 ·rw [e];exact hd
 ·rw [e]
  show hasF (withF _ _) d=true
  rw [with_has hc hb h.node,hd];rfl
include hc in
theorem Did.le (h:Did c nd o):∀ i,i < 8→c.1.getD i default≤(doF c nd o).1.1.1.getD i default:=by
 rcases h.is with ⟨h1,h2,e⟩ | ⟨h1,h2,h3,e⟩
 ·rw [e];exact fun i _=>Int.le_refl _
 ·rw [e]
  intro i hi
  show _≤(withF _ _).getD i default
  have hn:=of_decide_eq_true h.node
  rw [with_is h.node,set_get (by omega)]
  split
  ·rename_i q
   have:getF c.1 nd=c.1.getD i default:=by unfold getF;rw [if_pos hn,q]
   omega
  ·exact Int.le_refl _
end
/-! the items -/
/-! the dots -/
end Go.Proofs.YtcbhmngagibhmaaGreat.Ca
