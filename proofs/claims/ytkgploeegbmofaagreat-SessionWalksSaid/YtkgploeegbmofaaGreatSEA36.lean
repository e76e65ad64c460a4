/- sessions, plainly: places that rise; a session behind a message -/
import Derived.Test.YtkgploeegbmofaaGreatSEA35
import Derived.Test.YtkgploeegbmofaaGreatSEA25
import Derived.Test.YtkgploeegbmofaaGreatSEA33
import Derived.Test.YtkgploeegbmofaaGreatSEA15
import Derived.Test.YtkgploeegbmofaaGreatSEA37
import Derived.Test.YtkgploeegbmofaaGreatSEA26
namespace Go.Proofs.YtkgploeegbmofaaGreat.Wi
open Go Go.RowKit Go.Aw Go.Aw.Sha Go.Aw.Cart Go.Aw.Tree Go.Aw.Clash Go.Proofs.YtkgploeegbmofaaGreat.Ca Go.Proofs.YtkgploeegbmofaaGreat.Rg
set_option linter.unusedVariables false
set_option linter.unusedSimpArgs false
attribute [local irreducible] sum
theorem lt_of_adj {l:List Int} (h:∀ i,0 < i→i < l.length→l.getD (i - 1) default < l.getD i default):∀ j,j < l.length→∀ i,i < j→l.getD i default < l.getD j default
 | 0,_,i,hi=>absurd hi (Nat.not_lt_zero _)
 | j+1,hj,i,hi=>by
  have h1:=h (j+1) (by omega) hj
  rw [Nat.add_sub_cancel] at h1
  by_cases e:i=j
  ·rw [e];exact h1
  ·have h2:=lt_of_adj h j (by omega) i (by omega)
   omega
theorem lvl_iff {l:List Int} {n:Int}:lvlF l n=true↔(∀ p∈l,levelF p=n)∧l.Pairwise (fun a b=>a < b)∧l≠[]:=by
 have hg:∀ {i:Nat} (hi:i < l.length),l.getD i default=l[i]:=fun {i} hi=>by rw [List.getD_eq_getElem?_getD,List.getElem?_eq_getElem hi];rfl
 unfold lvlF
 rw [decide_eq_true_iff]
 constructor
 ·rintro ⟨h,h0⟩
  refine ⟨fun p hp=>?_,?_,fun q=>by rw [q] at h0;exact absurd h0 (Nat.lt_irrefl _)⟩
  ·obtain ⟨i,hi,rfl⟩:=List.getElem_of_mem hp
   have:=h i hi
   unfold lvlAt at this
   rw [Bool.and_eq_true,decide_eq_true_iff,hg hi] at this
   exact this.1
  ·have hadj:∀ i,0 < i→i < l.length→l.getD (i - 1) default < l.getD i default:=fun i h0 hi=>by
    have:=h i hi
    unfold lvlAt at this
    rw [Bool.and_eq_true,Bool.or_eq_true,decide_eq_true_iff,decide_eq_true_iff,decide_eq_true_iff] at this
    rcases this.2 with q|q
    ·omega
    ·exact q
   exact List.pairwise_iff_getElem.2 fun i j hi hj hij=>by
    have:=lt_of_adj hadj j hj i hij
    rwa [hg hi,hg hj] at this
 ·rintro ⟨h1,h2,h3⟩
  refine ⟨fun i hi=>?_,List.length_pos_iff.2 h3⟩
  unfold lvlAt
  rw [Bool.and_eq_true,Bool.or_eq_true,decide_eq_true_iff,decide_eq_true_iff,decide_eq_true_iff]
  refine ⟨by rw [hg hi];exact h1 _ (List.getElem_mem _),?_⟩
  by_cases e:i=0
  ·exact .inl e
  ·right
   have:=List.pairwise_iff_getElem.1 h2 (i - 1) i (by omega) hi (by omega)
   rwa [hg hi,hg (show i - 1 < l.length by omega)]
theorem rise_len:∀ {l:List Int} {lo hi:Int},l.Pairwise (fun a b=>a < b)→(∀ p∈l,lo≤p∧p≤hi)→lo≤hi+1→(l.length:Int)≤hi - lo+1
 | [],_,_,_,_,h=>by simp only [List.length_nil];omega
 | a::l,lo,hi,hp,hin,h=>by
  have ha:=hin a List.mem_cons_self
  have:=rise_len (l:=l) (lo:=a+1) (hi:=hi) hp.of_cons (fun p q=>⟨by have:=List.rel_of_pairwise_cons hp q;omega,(hin p (List.mem_cons_of_mem _ q)).2⟩) (by omega)
  rw [List.length_cons]
  omega
theorem level0 {p:Int} (h:levelF p=0):p=0:=by
 unfold levelF at h
 repeat' split at h
 all_goals omega
theorem level1 {p:Int} (h:levelF p=1):1≤p∧p≤4:=by
 unfold levelF at h
 repeat' split at h
 all_goals omega
theorem level2 {p:Int} (h:levelF p=2):5≤p∧p≤20:=by
 unfold levelF at h
 repeat' split at h
 all_goals omega
theorem level_of1 {p:Int} (h:1≤p∧p≤4):levelF p=1:=by
 unfold levelF
 repeat' split
 all_goals omega
theorem level_of2 {p:Int} (h:5≤p∧p≤20):levelF p=2:=by
 unfold levelF
 repeat' split
 all_goals omega
theorem kids_rise {l:List Int} (h:∀ p∈l,0≤p∧p≤4) (hp:l.Pairwise fun a b=>a < b):(kidsL l).Pairwise fun a b=>a < b:=by
 induction l with
 | nil=>exact .nil
 | cons a l ih=>
  have ha:=h a List.mem_cons_self
  have e:kidsL (a::l)=[4 * a+1,4 * a+2,4 * a+3,4 * a+4]++kidsL l:=by
   unfold kidsL;rw [List.flatMap_cons,kidsF_in ha]
  rw [e,List.pairwise_append]
  refine ⟨?_,ih (fun p q=>h p (List.mem_cons_of_mem _ q)) hp.of_cons,fun x hx y hy=>?_⟩
  ·simp only [List.pairwise_cons,List.mem_cons,List.not_mem_nil,or_false]
   refine ⟨?_,?_,?_,?_,.nil⟩
   ·rintro x (rfl|rfl|rfl)<;>omega
   ·rintro x (rfl|rfl)<;>omega
   ·rintro x rfl;omega
   ·intro x hx;exact hx.elim
  ·unfold kidsL at hy
   obtain ⟨b,hb,hy⟩:=List.mem_flatMap.1 hy
   rw [kidsF_in (h b (List.mem_cons_of_mem _ hb))] at hy
   have:=List.rel_of_pairwise_cons hp hb
   simp only [List.mem_cons,List.not_mem_nil,or_false] at hx hy
   omega
theorem lvl_next {l K:List Int} {n:Int} (h:lvlF l n=true) (hn:n=0∨n=1) (hs:K.Sublist (kidsL l)) (h0:K≠[]):lvlF K (n+1)=true:=by
 obtain ⟨h1,h2,h3⟩:=lvl_iff.1 h
 have hin:∀ p∈l,0≤p∧p≤4:=fun p hp=>by
  rcases hn with rfl|rfl
  ·have:=level0 (h1 p hp);omega
  ·have:=level1 (h1 p hp);omega
 refine lvl_iff.2 ⟨fun p hp=>?_,(kids_rise hin h2).sublist hs,h0⟩
 have hk:=hs.subset hp
 unfold kidsL at hk
 obtain ⟨b,hb,hk⟩:=List.mem_flatMap.1 hk
 rw [kidsF_in (hin b hb)] at hk
 simp only [List.mem_cons,List.not_mem_nil,or_false] at hk
 rcases hn with rfl|rfl
 ·have:=level0 (h1 b hb)
  exact level_of1 (by omega)
 ·have:=level1 (h1 b hb)
  exact level_of2 (by omega)
theorem lvl_len {l:List Int} {n:Int} (h:lvlF l n=true) (hn:n=0∨n=1∨n=2):l.length≤16:=by
 obtain ⟨h1,h2,h3⟩:=lvl_iff.1 h
 have:=rise_len (lo:=0) (hi:=20) h2 (fun p hp=>by
  have hq:=h1 p hp
  rcases hn with rfl|rfl|rfl
  ·have:=level0 hq;omega
  ·have:=level1 hq;omega
  ·have:=level2 hq;omega) (by omega)
 rcases hn with rfl|rfl|rfl
 ·have:=rise_len (lo:=0) (hi:=0) h2 (fun p hp=>by have:=level0 (h1 p hp);omega) (by omega);omega
 ·have:=rise_len (lo:=1) (hi:=4) h2 (fun p hp=>level1 (h1 p hp)) (by omega);omega
 ·have:=rise_len (lo:=5) (hi:=20) h2 (fun p hp=>level2 (h1 p hp)) (by omega);omega
theorem lvl_kids {l:List Int} {n:Int} (h:lvlF l n=true) (hn:n=0∨n=1):(kidsL l).length=4 * l.length:=
 kidsL_len fun p hp=>by
  have hq:=(lvl_iff.1 h).1 p hp
  rcases hn with rfl|rfl
  ·have:=level0 hq;omega
  ·have:=level1 hq;omega
theorem lvl_0:lvlF [0] 0=true:=by decide
theorem pls_few {s:Ses} (h:rightS s=true):s.pls.length≤16:=by
 have hp:=right_parts h
 obtain ⟨_,_,_,_,_,hr,hp,_,_⟩:=hp
 unfold plsB at hp
 split at hp
 ·have:=of_decide_eq_true hp;omega
 ·exact lvl_len hp (by omega)
theorem at_lvl {s:Ses} (h:rightS s=true) (hr:s.round=1∨s.round=2):lvlF (atS s) (s.round - 1)=true:=by
 have hp:=(right_parts h).2.2.2.2.2.2.1
 unfold atS
 rcases hr with r|r
 ·rw [if_pos r,r];exact lvl_0
 ·rw [if_neg (by omega)]
  unfold plsB at hp
  rw [if_neg (by omega)] at hp
  exact hp
theorem end_right {s:Ses} (h:rightS s=true):rightS (overS s)=true:=by
 obtain ⟨h1,h2,h3,h4,h5,h6,h7,h8,h9⟩:=right_parts h
 exact right_of_parts (s:=overS s) ⟨h1,h2,h3,h4,h5,(show (0:Int)≤0∧(0:Int)≤3 by omega),by rfl,h8,h9⟩
theorem rnd_right {s:Ses} {n now:Int} {l:List Int} (h:rightS s=true) (hn:0≤n∧n≤3) (hp:plsB n l=true) (hw:0≤now∧now≤1099511627776):rightS (rndS s n l now)=true:=by
 obtain ⟨h1,h2,h3,h4,h5,h6,h7,h8,h9⟩:=right_parts h
 have hr:=Aw.Bo.right_of h8
 have hg:=Aw.Bo.gap_in (b:=s.wb) (c:=s.wc) (t:=0) (by omega) (by omega)
 exact right_of_parts (s:=rndS s n l now) ⟨h1,h2,h3,h4,h5,hn,hp,Aw.Bo.right_mk (show 1≤s.wb∧s.wb≤1000∧s.wb≤s.wc∧s.wc≤1048576∧1≤s.wm∧s.wm≤1073741824∧(0:Int)≤0∧(0:Int)≤1073741824 by omega),by show 0≤now+Aw.Bo.gapF s.wb s.wc 0∧now+Aw.Bo.gapF s.wb s.wc 0≤2199023255552;omega⟩
theorem nx_right {T:List Nat} {s:Ses} {m:Msg} {now:Int} (h:rightS s=true) (hr:s.round=1∨s.round=2) (he:m.pls=atS s) (h0:nxS T m≠[]) (hw:0≤now∧now≤1099511627776):rightS (rndS s (s.round+1) (nxS T m) now)=true:=by
 refine rnd_right h (by omega) ?_ hw
 unfold plsB
 rw [if_neg (by omega),show s.round+1 - 1=(s.round - 1)+1 by omega]
 have hs:(nxS T m).Sublist (kidsL m.pls):=by
  have:=unTo_in T (kidsL m.pls) m.dgs (kidsL m.pls).length (Nat.le_refl _)
  rw [List.take_length] at this
  exact this
 rw [he] at hs
 exact lvl_next (at_lvl h hr) (by omega) hs h0
theorem hear_facts {T:List Nat} {s:Ses} {m:Msg} {now:Int} (hs:rightS s=true) (hn:0≤now∧now≤1099511627776) (h:(hearF T s m now).2=true) :
  ((hearF T s m now).1.id=s.id∧(hearF T s m now).1.self=s.self∧(hearF T s m now).1.peer=s.peer∧(hearF T s m now).1.part=s.part)∧((hearF T s m now).1.round=0∨(hearF T s m now).1.round=s.round+1)∧rightS (hearF T s m now).1=true∧(m.kind=4∨m.kind=5∨m.kind=6∧s.round=3∧(hearF T s m now).1.round=0):=by
 unfold hearF at h ⊢
 by_cases h1:s.round=1∧m.kind=4∨s.round=3∧m.kind=6∧m.pls=s.pls
 ·rw [if_pos h1]
  refine ⟨⟨rfl,rfl,rfl,rfl⟩,.inl rfl,end_right hs,?_⟩
  rcases h1 with ⟨_,q⟩ | ⟨q,q2,_⟩
  ·exact .inl q
  ·exact .inr (.inr ⟨q2,q,rfl⟩)
 rw [if_neg h1] at h ⊢
 by_cases h2:m.kind=5∧(s.round=1∨s.round=2)∧m.pls=atS s
 ·rw [if_pos h2]
  dsimp only
  by_cases h3:nxS T m=[]
  ·rw [if_pos h3]
   exact ⟨⟨rfl,rfl,rfl,rfl⟩,.inl rfl,end_right hs,.inr (.inl h2.1)⟩
  ·rw [if_neg h3]
   exact ⟨⟨rfl,rfl,rfl,rfl⟩,.inr rfl,nx_right hs h2.2.1 h2.2.2 h3 hn,.inr (.inl h2.1)⟩
 ·rw [if_neg h2] at h
  cases h
theorem right_own {m:Msg} (h:rightM m=true):m=ownM m:=by
 unfold rightM at h
 simp only [Bool.and_eq_true] at h
 exact sameM_iff.1 h.2.2.2.2.2
theorem own_kds {m:Msg} (h:rightM m=true) (hk:m.kind=4∨m.kind=5):m.kds=[]:=by
 have h1:=congrArg Msg.kds (right_own h)
 rw [h1]
 unfold ownM
 dsimp only
 rw [if_neg (by omega)]
theorem kids_dgs {m:Msg} (h:rightM m=true) (hk:m.kind=5):m.dgs.length=(kidsL m.pls).length:=by
 unfold rightM at h
 rw [Bool.and_eq_true] at h
 have hb:=h.1
 unfold bodyM at hb
 rw [if_neg (by omega),if_neg (by omega),if_neg (by omega),if_pos hk,Bool.and_eq_true,Bool.or_eq_true] at hb
 obtain ⟨h1,h2⟩:=hb
 have h2:=of_decide_eq_true h2
 rcases h1 with q|q
 ·rw [lvl_kids q (.inl rfl)];omega
 ·rw [lvl_kids q (.inr rfl)];omega
end Go.Proofs.YtkgploeegbmofaaGreat.Wi
namespace Go.Proofs.YtkgploeegbmofaaGreat.Wi
open Go Go.RowKit Go.Aw Go.Aw.Cart Go.Proofs.YtkgploeegbmofaaGreat.Ca Go.Proofs.YtkgploeegbmofaaGreat.Rg
set_option linter.unusedVariables false
set_option linter.unusedSimpArgs false
set_option maxRecDepth 8000
theorem abc_at:partF [97,98,99]=5∧leafF [97,98,99]=13:=by decide +kernel
def kd1:Kd:=([97,98,99],([1,0,0,0,0,0,0,0],[]))
def kd2:Kd:=([97,98,100],(zeroV,[]))
def l19:List Kd:=[kd1,kd2]
theorem l19_ok:KOk l19 where
 few:=by decide
 up:=.cons (by intro b hb;simp only [List.mem_cons,List.not_mem_nil,or_false] at hb;rw [hb];decide) (.cons (fun b hb=>by cases hb) .nil)
 key:=by intro e he;simp only [l19,List.mem_cons,List.not_mem_nil,or_false] at he;rcases he with rfl|rfl<;>decide
 cart:=by
  intro e he
  simp only [l19,List.mem_cons,List.not_mem_nil,or_false] at he
  rcases he with rfl|rfl
  ·exact rightF_iff.2 ⟨by decide,by decide,by decide⟩
  ·exact z10_right
theorem nil_in:LIn []:=⟨by decide,fun k hk=>(by cases hk),fun k hk=>(by cases hk)⟩
theorem st19:stF l19=[kd1]:=by
 unfold stF l19
 rw [List.filter_cons_of_pos (by decide),List.filter_cons_of_neg (by decide),List.filter_nil]
theorem bk19:bktsF l19 5=List.replicate 13 []++[kd1]::List.replicate 2 []:=by
 unfold bktsF
 rw [if_pos (keys_iff.2 l19_ok),st19]
 refine bk_ext (bkF_len _ _) rfl fun j hj=>?_
 rw [bkF_get _ _ hj]
 have e:inB 5 j kd1=decide (13=j):=by
  unfold inB
  rw [show partF kd1.1=5 from abc_at.1,show leafF kd1.1=13 from abc_at.2];rfl
 rw [List.filter_cons,e,List.filter_nil]
 clear e
 match j,hj with
 | 0,_=>rfl
 | 1,_=>rfl
 | 2,_=>rfl
 | 3,_=>rfl
 | 4,_=>rfl
 | 5,_=>rfl
 | 6,_=>rfl
 | 7,_=>rfl
 | 8,_=>rfl
 | 9,_=>rfl
 | 10,_=>rfl
 | 11,_=>rfl
 | 12,_=>rfl
 | 13,_=>rfl
 | 14,_=>rfl
 | 15,_=>rfl
 | n+16,h=>exact absurd h (by omega)
end Go.Proofs.YtkgploeegbmofaaGreat.Wi
namespace Go.Aw
set_option linter.unusedVariables false
section ops
variable {C:Ctx} {o:Oper} {σ:St}
theorem lop_makeP {T e:TypeId} {x y:Operand} {sz by_:Nat} {ke:TK} {es be c:Nat} {z:List Value} {kx ky:IntKind} (ho:o.op=.makeSlice T x y) (hT:TI C.P T (.slice e) sz by_) (he:TI C.P e ke es be) (hz:TZ C.P e z) (hx:σ.look x=.p (.v (.int kx c))) (hy:σ.look y=.p (.v (.int ky c))) (hzl:z.length=es) (h0:0 < es) (h63:(c:Int)≤2147483648) (hby:(be:Int) * c≤281474976710656) (h1:z.all (·.oneCell')=true) (hd:dOk C o.dst=true) :
  LOp C o σ ⟨.p (.sl es (List.replicate c (z.map .v)) true),[]⟩ (fun _=>false):=
 lop_grow hd fun τ a w G hl hm' h=>by
  have e1:=val_of h ((hl x (by simp [ho,Op.operands])).trans hx)
  have e2:=val_of h ((hl y (by simp [ho,Op.operands])).trans hy)
  obtain ⟨dd,hdd,hkk⟩:=hT.undd
  have:dd=.slice e:=by cases dd<;>simp [TK.of] at hkk;rw [hkk]
  subst this
  obtain ⟨i,hi,his,hib⟩:=he.infoo
  have hzz:=hz.zero
  simp only [hi,Option.bind_some] at hzz
  cases hz0:i.zero with
  | none=>simp [hz0] at hzz
  | some zv=>
   simp only [hz0,Option.map_some,Option.some.injEq] at hzz
   have hr:=run_make (P:=C.P) w T e i zv hdd hi hz0 kx ky c c (by omega) (Int.le_refl _) (by rw [hib];exact hby) (by omega)
   simp only [Int.toNat_natCast] at hr
   have hzs:zv.cells.size=es:=by rw [← hzl,← hzz,Array.length_toList]
   refine ⟨.slice (some ⟨w.heap.size,0,none⟩) c c,w.alloc (.cells (madeCells zv.cells (c * i.size)) e),?_,Quiet.alloc _ _,?_⟩
   ·simp only [execOp,ho,e1,e2,Sem.run_bind,hr,Result.andThen_ok,Sem.run_pure]
   ·refine ⟨some ⟨w.heap.size,0,none⟩,c,?_,?_,?_,?_,.inr ⟨rfl,?_,madeCells zv.cells (c * i.size),e,(0,0),by simpa using heap_alloc_new w _,?_⟩⟩
    ·simp
    ·simp
    ·simp only [maxLen];omega
    ·simp
    ·simp
    ·intro q row hq
     rw [List.getElem?_replicate] at hq
     split at hq
     ·rename_i hlt
      obtain rfl:=Option.some.inj hq
      refine ⟨by rw [List.length_map,hzl],fun j p hp=>?_⟩
      rw [List.getElem?_map] at hp
      cases hj:z[j]? with
      | none=>rw [hj] at hp;cases hp
      | some v=>
       rw [hj] at hp
       obtain rfl:=Option.some.inj hp
       obtain ⟨hjl,hjv⟩:=List.getElem?_eq_some_iff.1 hj
       refine ⟨v,?_,rfl,List.all_eq_true.1 h1 v (List.mem_of_getElem? hj)⟩
       have hlt':q * es+j < c * i.size:=by
        rw [his]
        have:(q+1) * es≤c * es:=Nat.mul_le_mul_right _ hlt
        rw [Nat.add_mul,Nat.one_mul] at this
        omega
       have hmod:(q * es+j) % es=j:=by
        rw [Nat.mul_comm,Nat.mul_add_mod,Nat.mod_eq_of_lt (by omega)]
       rw [Nat.zero_add]
       have hjz:j < zv.cells.size:=by omega
       have hv:zv.cells[j]=v:=by
        have:zv.cells.toList[j]?=some v:=by rw [hzz];exact hj
        rw [Array.getElem?_toList] at this
        rw [Array.getElem?_eq_getElem hjz] at this
        exact Option.some.inj this
       unfold madeCells
       rw [Array.getElem?_map,Array.getElem?_range,if_pos hlt',Option.map_some,hzs,hmod,getElem!_pos zv.cells j hjz,hv]
     ·cases hq
end ops
end Go.Aw
namespace Go.Proofs.YtkgploeegbmofaaGreat.Wi
open Go Go.RowKit Go.Aw Go.Aw.Cart Go.Aw.Tree Go.Proofs.YtkgploeegbmofaaGreat.Ca Go.Proofs.YtkgploeegbmofaaGreat.Rg
set_option linter.unusedVariables false
set_option linter.unusedSimpArgs false
set_option maxRecDepth 8000
set_option maxHeartbeats 4000000
structure MGo (m:Msg):Prop where
 d32:m.dig.length=32
 dok:okB m.dig
 pl:m.pls.length≤9223372036854775807
 dl:m.dgs.length≤9223372036854775807
 dg:∀ d∈m.dgs,d.length=32∧okB d
 kl:m.kds.length≤9223372036854775807
 kd:∀ k∈m.kds,KdI k
def greatM (m:Msg):Bool:=decide (60 < (m.pls.length:Int))||(decide (60 < (m.dgs.length:Int))||greatL m.kds)
theorem min_of {m:Msg} (h:MGo m) (hg:greatM m=false):MIn m∧m.pls.length≤60∧m.dgs.length≤60∧greatL m.kds=false:=by
 unfold greatM at hg
 rw [Bool.or_eq_false_iff,Bool.or_eq_false_iff,decide_eq_false_iff_not,decide_eq_false_iff_not] at hg
 obtain ⟨h1,h2,h3⟩:=hg
 obtain ⟨g1,g2⟩:=greatL_no h3
 exact ⟨⟨h.d32,h.dok,by omega,by omega,h.dg,by omega,h.kd,fun k hk=>by have:=(g2 k hk).2;omega⟩,by omega,by omega,h3⟩
open T4
theorem great26_w (m:Msg) (h:MGo m):PCall Tryz.prog 24 [mV m] (.p (.b (greatM m))):=by
 refine pcall_of Tryz.func24 rfl (fun w0 F S0 M0=>?_)
 have h32:(m.dig.map bcD).length=32:=by rw [List.length_map];exact h.d32
 have c1:=pgreat_w m.kds false h.kl
 unfold greatM
 generalize greatL m.kds=G at c1 ⊢
 haveI:PC Tryz.prog 23 [.p (.sl 10 (m.kds.map kR) false)] True (.p (.b G)):=⟨fun _=>c1⟩
 cases d1:decide (60 < (m.pls.length:Int)) with
 | true=>
  rw [Bool.true_or]
  as_aux_lemma=>
   repeat' (first|refine jx5 ?_|refine jy0 ?_ ?_|exact spF|refine spQ fun hq hq'=>?_|refine spN fun hn=>?_|fail)
   exact rt1 rfl rfl finS_p rfl
 | false=>
  rw [Bool.false_or]
  cases d2:decide (60 < (m.dgs.length:Int)) with
  | true=>
   rw [Bool.true_or]
   as_aux_lemma=>
    repeat' (first|refine jx5 ?_|refine jy0 ?_ ?_|exact spF|refine spQ fun hq hq'=>?_|refine spN fun hn=>?_|fail)
    exact rt1 rfl rfl finS_p rfl
  | false=>
   rw [Bool.false_or]
   as_aux_lemma=>
    repeat' (first|refine jx5 ?_|refine jy0 ?_ ?_|exact spF|refine spQ fun hq hq'=>?_|refine spN fun hn=>?_|fail)
    exact rt1 rfl rfl finS_p rfl
theorem ent_m {p0 p1 p2 p3 p4 x y z x' y' z':PVal} {d:List Nat} (h1:PE x x') (h2:PE y y') (h3:PE z z'):Ent1 (.a (.p p0::.p p1::.p p2::.p p3::.p p4::(d.map bcD++[.p x,.p y,.p z]))) (.a (.p p0::.p p1::.p p2::.p p3::.p p4::(d.map bcD++[.p x',.p y',.p z']))):=by
 have e:∀ a b c:PVal,(.p p0::.p p1::.p p2::.p p3::.p p4::(d.map bcD++[.p a,.p b,.p c]):List AC)=(p0::p1::p2::p3::p4::(d.map (fun n:Nat=>PVal.v (.int .u8 n))++[a,b,c])).map .p:=fun a b c=>by
  simp only [List.map_cons,List.map_append,List.map_map,List.map_nil]
  rfl
 rw [e,e]
 refine Ent1.cells (.cons .refl (.cons .refl (.cons .refl (.cons .refl (.cons .refl ?_)))))
 induction d with
 | nil=>exact .cons h1 (.cons h2 (.cons h3 .nil))
 | cons a d ih=>
  refine .cons .refl (ih fun a b c=>?_)
  simp only [List.map_cons,List.map_append,List.map_map,List.map_nil]
  rfl
theorem zeroD_ok:okB zeroD:=fun c hc=>by rw [List.eq_of_mem_replicate hc];decide
end Go.Proofs.YtkgploeegbmofaaGreat.Wi
namespace Go.Proofs.YtkgploeegbmofaaGreat.Wi
open Go Go.RowKit Go.Aw Go.Aw.Cart Go.Proofs.YtkgploeegbmofaaGreat.Ca
set_option linter.unusedVariables false
set_option linter.unusedSimpArgs false
theorem rd_keyP:Reads Tryz.prog 9 (List Nat) (fun k=>[.v (.string (strOf k))]) (fun k=>okB k∧k.length≤9223372036854775807):=
 (reads_string inferInstance).imp' bytesOf (fun s _=>by rw [strOf_bytesOf]) (fun s h=>⟨bytesOf_ok s,by
  have e:(bytesOf s).length=s.size:=by rw [← strOf_size,strOf_bytesOf]
  have h':s.size≤2 ^ 63 - 1:=h
  omega⟩)
theorem vRow_8 {v:List Int} (h:v.length=8):vRow v=[.k .u64 (v.getD 0 default),.k .u64 (v.getD 1 default),.k .u64 (v.getD 2 default),.k .u64 (v.getD 3 default),.k .u64 (v.getD 4 default),.k .u64 (v.getD 5 default),.k .u64 (v.getD 6 default),.k .u64 (v.getD 7 default)]:=by
 match v,h with
 | [a0,a1,a2,a3,a4,a5,a6,a7],_=>rfl
theorem rd_kd:Reads Tryz.prog 123 Kd (fun k=>kR k) KdI:=
 (reads_struct (inferInstance:TI Tryz.prog 123 _ _ _)
  (readsFs_cons (inferInstance:TI Tryz.prog 9 _ _ _) rd_keyP (readsFs_cons (inferInstance:TI Tryz.prog 121 _ _ _) rd_cart (readsFs_nil rfl)))).imp'
  (fun x=>(x.1,x.2.1)) (fun x h=>by
   have e:=vRow_8 h.2.1.v8
   simp only [cRow,e];rfl) (fun x h=>⟨h.1.1,h.1.2,⟨h.2.1.v8,h.2.1.vb⟩,h.2.1.len⟩)
theorem rd_kds:Reads Tryz.prog 36 (List Kd) (fun l=>[.sl 10 (l.map fun k=>kR k) false]) (fun l=>l.length≤maxLen∧∀ k∈l,KdI k):=
 reads_slice inferInstance inferInstance (by decide) rd_kd
end Go.Proofs.YtkgploeegbmofaaGreat.Wi
namespace Go.Proofs.YtkgploeegbmofaaGreat.Bo
open Go Go.RowKit Go.Aw Go.Aw.Bo
set_option linter.unusedVariables false
set_option linter.unusedSimpArgs false
theorem rd_int:Reads Tryz.prog 3 Int (fun n=>[PVal.k .i64 n]) (fun n=>IntKind.i64.min≤n∧n≤IntKind.i64.max):=reads_int inferInstance
def stRow (x:Int × Int × Int × Int):List PVal:=[PVal.i x.1,PVal.i x.2.1,PVal.i x.2.2.1,PVal.i x.2.2.2]
theorem rd_st:Reads Tryz.prog 61 (Int × Int × Int × Int) stRow (fun _=>True):=
 (reads_struct (inferInstance:TI Tryz.prog 61 _ _ _)
  (readsFs_cons (inferInstance:TI Tryz.prog 3 _ _ _) rd_int (readsFs_cons (inferInstance:TI Tryz.prog 3 _ _ _) rd_int (readsFs_cons (inferInstance:TI Tryz.prog 3 _ _ _) rd_int (readsFs_cons (inferInstance:TI Tryz.prog 3 _ _ _) rd_int (readsFs_nil rfl)))))).imp
  (fun x=>(x.1,x.2.1,x.2.2.1,x.2.2.2.1)) (fun x=>rfl) (fun _ _=>trivial)
end Go.Proofs.YtkgploeegbmofaaGreat.Bo
namespace Go.Proofs.YtkgploeegbmofaaGreat.Wi
open Go Go.RowKit Go.Aw Go.Aw.Cart Go.Aw.Tree Go.Proofs.YtkgploeegbmofaaGreat.Ca Go.Proofs.YtkgploeegbmofaaGreat.Rg
set_option linter.unusedVariables false
set_option maxRecDepth 8000
theorem u8_of {n:Int} (h:IntKind.u8.min≤n∧n≤IntKind.u8.max):((n.toNat:Nat):Int)=n∧n.toNat < 256:=by
 simp only [IntKind.min,IntKind.max,IntKind.signed,IntKind.bits] at h
 simp at h;omega
theorem u8s_map {β:Type} {f:Int→β} {l:List Int} (h:∀ n∈l,IntKind.u8.min≤n∧n≤IntKind.u8.max):(l.map Int.toNat).map (fun n:Nat=>f (n:Int))=l.map f:=by
 rw [List.map_map]
 exact List.map_congr_left fun n hn=>by simp only [Function.comp_apply,(u8_of (h n hn)).1]
theorem u8s_ok {l:List Int} (h:∀ n∈l,IntKind.u8.min≤n∧n≤IntKind.u8.max):okB (l.map Int.toNat):=fun n hn=>by
 obtain ⟨m,hm,rfl⟩:=List.mem_map.1 hn
 exact (u8_of (h m hm)).2
theorem rd_digP:Reads Tryz.prog 34 (List Nat) dRw (fun d=>d.length=32∧okB d):=
 (reads_array (α:=Int) (row:=fun n=>[PVal.k .u8 n]) (ok:=fun n=>IntKind.u8.min≤n∧n≤IntKind.u8.max) (inferInstance:TI Tryz.prog 34 _ _ _) (inferInstance:TI Tryz.prog 5 _ _ _) rfl (reads_int inferInstance)).imp' (fun l=>l.map Int.toNat)
  (fun l h=>by
   have e:dRw (l.map Int.toNat)=l.map fun n=>PVal.k .u8 n:=u8s_map (f:=fun n=>PVal.k .u8 n) h.2
   rw [e]
   clear h e
   induction l with
   | nil=>rfl
   | cons b l ih=>simp [ih]) (fun l h=>⟨by simpa using h.1,u8s_ok h.2⟩)
theorem rd_digsP:Reads Tryz.prog 35 (List (List Nat)) (fun l=>[.sl 32 (l.map dRw) false]) (fun l=>l.length≤maxLen∧∀ d∈l,d.length=32∧okB d):=
 reads_slice inferInstance inferInstance (by decide) rd_digP
theorem rd_intsP:Reads Tryz.prog 29 (List Int) (fun l=>[.sl 1 (l.map iRw) false]) (fun l=>l.length≤maxLen∧∀ n∈l,IntKind.i64.min≤n∧n≤IntKind.i64.max):=
 reads_slice inferInstance inferInstance (by decide) (reads_int inferInstance)
theorem lenM {α:Type} {l:List α} (h:l.length≤maxLen):l.length≤9223372036854775807:=by simpa [maxLen] using h
def mRow (m:Msg):List PVal:=[PVal.i m.kind,PVal.i m.frm,PVal.i m.to,PVal.i m.ses,PVal.i m.part]++(dRw m.dig++[.sl 1 (m.pls.map iRw) false,.sl 32 (m.dgs.map dRw) false,.sl 10 (m.kds.map kR) false])
def toM (x:Int × Int × Int × Int × Int × List Nat × List Int × List (List Nat) × List Kd × Unit):Msg:=⟨x.1,x.2.1,x.2.2.1,x.2.2.2.1,x.2.2.2.2.1,x.2.2.2.2.2.1,x.2.2.2.2.2.2.1,x.2.2.2.2.2.2.2.1,x.2.2.2.2.2.2.2.2.1⟩
theorem rd_msg:Reads Tryz.prog 38 Msg mRow MGo:=
 (reads_struct (inferInstance:TI Tryz.prog 38 _ _ _)
  (readsFs_cons (inferInstance:TI Tryz.prog 3 _ _ _) Ca.rd_int (readsFs_cons (inferInstance:TI Tryz.prog 3 _ _ _) Ca.rd_int (readsFs_cons (inferInstance:TI Tryz.prog 3 _ _ _) Ca.rd_int (readsFs_cons (inferInstance:TI Tryz.prog 3 _ _ _) Ca.rd_int (readsFs_cons (inferInstance:TI Tryz.prog 3 _ _ _) Ca.rd_int
  (readsFs_cons (inferInstance:TI Tryz.prog 34 _ _ _) rd_digP (readsFs_cons (inferInstance:TI Tryz.prog 29 _ _ _) rd_intsP (readsFs_cons (inferInstance:TI Tryz.prog 35 _ _ _) rd_digsP (readsFs_cons (inferInstance:TI Tryz.prog 36 _ _ _) rd_kds (readsFs_nil rfl))))))))))).imp'
  toM (fun x _=>rfl) (fun x h=>by
   obtain ⟨_,_,_,_,_,h6,h7,h8,h9,_⟩:=h
   exact ⟨h6.1,h6.2,lenM h7.1,lenM h8.1,h8.2,lenM h9.1,h9.2⟩)
theorem m_arg (m:Msg):argAV true (mRow m)=mV m:=by
 show AV.a ((mRow m).map .p)=_
 unfold mRow
 simp only [List.map_cons,List.map_append,List.map_nil,List.cons_append,List.nil_append]
 show AV.a (_::_::_::_::_::((m.dig.map _).map _++_))=_
 rw [List.map_map];rfl
def SGo (s:Ses):Prop:=s.pls.length≤9223372036854775807
def sRow (s:Ses):List PVal:=[.i s.id,.i s.self,.i s.peer,.i s.part,.i s.round,.sl 1 (s.pls.map iRw) false,.i s.wb,.i s.wc,.i s.wm,.i s.wt,.i s.due]
def toS (x:Int × Int × Int × Int × Int × List Int × (Int × Int × Int × Int) × Int × Unit):Ses:=⟨x.1,x.2.1,x.2.2.1,x.2.2.2.1,x.2.2.2.2.1,x.2.2.2.2.2.1,x.2.2.2.2.2.2.1.1,x.2.2.2.2.2.2.1.2.1,x.2.2.2.2.2.2.1.2.2.1,x.2.2.2.2.2.2.1.2.2.2,x.2.2.2.2.2.2.2.1⟩
theorem rd_ses:Reads Tryz.prog 63 Ses sRow SGo:=
 (reads_struct (inferInstance:TI Tryz.prog 63 _ _ _)
  (readsFs_cons (inferInstance:TI Tryz.prog 3 _ _ _) Ca.rd_int (readsFs_cons (inferInstance:TI Tryz.prog 3 _ _ _) Ca.rd_int (readsFs_cons (inferInstance:TI Tryz.prog 3 _ _ _) Ca.rd_int (readsFs_cons (inferInstance:TI Tryz.prog 3 _ _ _) Ca.rd_int (readsFs_cons (inferInstance:TI Tryz.prog 3 _ _ _) Ca.rd_int
  (readsFs_cons (inferInstance:TI Tryz.prog 29 _ _ _) rd_intsP (readsFs_cons (inferInstance:TI Tryz.prog 61 _ _ _) Bo.rd_st (readsFs_cons (inferInstance:TI Tryz.prog 3 _ _ _) Ca.rd_int (readsFs_nil rfl)))))))))).imp'
  toS (fun x _=>rfl) (fun x h=>lenM h.2.2.2.2.2.1.1)
end Go.Proofs.YtkgploeegbmofaaGreat.Wi
