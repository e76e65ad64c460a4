/- sessions, plainly: the whole walk of two ends -/
import Derived.Test.YtkgploeegbmofaaGreatSEA36
import Derived.Test.YtkgploeegbmofaaGreatSEA38
import Derived.Test.YtkgploeegbmofaaGreatSEA41
import Derived.Test.YtkgploeegbmofaaGreatSED00
namespace Go.Proofs.YtkgploeegbmofaaGreat.Wi
open Go Go.RowKit Go.Aw Go.Aw.Sha Go.Aw.Cart Go.Aw.Tree Go.Aw.Clash Go.Proofs.YtkgploeegbmofaaGreat.Ca Go.Proofs.YtkgploeegbmofaaGreat.Rg
set_option linter.unusedVariables false
set_option linter.unusedSimpArgs false
set_option maxRecDepth 8000
attribute [local irreducible] sum
theorem mem_withK {l:List Kd} {k:List Nat} {c:Crt} {e:Kd} (h:e∈withK l k c):e∈l∨e=(k,c):=by
 unfold withK at h
 split at h
 ·unfold setK at h
  obtain ⟨x,hx,rfl⟩:=List.mem_map.1 h
  split
  ·rename_i q;right;rw [q]
  ·exact .inl hx
 ·rcases List.mem_append.1 h with h|h
  ·exact .inl (List.mem_of_mem_take h)
  ·rcases List.mem_cons.1 h with h|h
   ·exact .inr h
   ·exact .inl (List.mem_of_mem_drop h)
theorem mem_addK:∀ {b o:List Kd} {e:Kd},e∈addK o b→e∈o∨e∈b
 | [],o,e,h=>.inl h
 | k::b,o,e,h=>by
  rcases mem_addK (b:=b) (o:=withK o k.1 k.2) h with h|h
  ·rcases mem_withK h with h|h
   ·exact .inl h
   ·right;rw [h];exact List.mem_cons_self
  ·exact .inr (List.mem_cons_of_mem _ h)
theorem addK_len:∀ {b o:List Kd},(∀ e∈o,∀ k∈b,e.1≠k.1)→b.Pairwise (fun x y=>x.1≠y.1)→(addK o b).length=o.length+b.length
 | [],o,_,_=>rfl
 | k::b,o,h,hp=>by
  have hn:hasK o k.1=false:=by
   cases q:hasK o k.1 with
   | false=>rfl
   | true=>
    obtain ⟨e,he,q⟩:=hasK_iff.1 q
    exact absurd q (h e he k List.mem_cons_self)
  have hl:=with_len o k.1 k.2
  rw [hn,if_neg (by decide)] at hl
  have:=addK_len (b:=b) (o:=withK o k.1 k.2) (fun e he x hx=>by
   rcases mem_withK he with q|q
   ·exact h e q x (List.mem_cons_of_mem _ hx)
   ·rw [q];exact List.rel_of_pairwise_cons hp hx) hp.of_cons
  show (addK (withK o k.1 k.2) b).length=_
  rw [this,hl,List.length_cons];omega
theorem addK_ok:∀ {b o:List Kd},KOk o→o.length+b.length≤2000→(∀ k∈b,k.1.length≤20∧rightF k.2.1 k.2.2=true)→KOk (addK o b)
 | [],o,h,_,_=>h
 | k::b,o,h,hl,hk=>by
  rw [List.length_cons] at hl
  have hw:=(with_len_le o k.1 k.2).2
  exact addK_ok (b:=b) (o:=withK o k.1 k.2) (with_ok h (by omega) (hk k List.mem_cons_self).1 (hk k List.mem_cons_self).2) (by omega) fun x hx=>hk x (List.mem_cons_of_mem _ hx)
theorem of_mem {l:List Kd} (hr:keysF l=true) {part n:Int} {e:Kd} (h:e∈ofF' l part n):e∈l∧keyR e.1=true∧(partF e.1:Int)=part∧(leafF e.1:Int)=n:=by
 unfold ofF' at h
 split at h
 ·rename_i hn
  obtain ⟨h1,_,h3,h4,h5⟩:=(mem_bkt hr (by omega)).1 h
  exact ⟨h1,h3,h4,by rw [h5];omega⟩
 ·cases h
theorem of_few {l:List Kd} {part n:Int}:(ofF' l part n).length≤l.length:=by
 unfold ofF'
 split
 ·exact bk_lenle
 ·exact Nat.zero_le _
theorem of_dist {l:List Kd} {part n:Int}:(ofF' l part n).Pairwise fun x y=>x.1≠y.1:=by
 unfold ofF'
 split
 ·refine List.Pairwise.imp ?_ (up_bkt l part n.toNat)
  intro a b h q
  rw [q,bLt_irr] at h;cases h
 ·exact .nil
theorem mem_carts {l:List Kd} {part:Int}:∀ (i:Nat) {L:List Int} {e:Kd},i≤L.length→e∈cartsTo l part (L.take i)→∃ n∈L.take i,e∈ofF' l part n
 | 0,L,e,_,h=>by rw [List.take_zero] at h;cases h
 | i+1,L,e,hi,h=>by
  rw [cartsTo_snoc l part L (by omega)] at h
  rw [take_snocD (by omega)]
  rcases mem_addK h with h|h
  ·obtain ⟨n,hn,he⟩:=mem_carts i (by omega) h
   exact ⟨n,List.mem_append_left _ hn,he⟩
  ·exact ⟨_,List.mem_append_right _ List.mem_cons_self,h⟩
theorem carts_len {l:List Kd} (hr:keysF l=true) {part:Int} {L:List Int} (hL:L.Pairwise fun a b=>a < b) {i:Nat} (h:i < L.length):(cartsTo l part (L.take (i+1))).length=(cartsTo l part (L.take i)).length+(ofF' l part (L.getD i default)).length:=by
 rw [cartsTo_snoc l part L h]
 refine addK_len (fun e he k hk=>?_) of_dist
 obtain ⟨n,hn,he⟩:=mem_carts i (by omega) he
 have h1:=(of_mem hr he).2.2.2
 have h2:=(of_mem hr hk).2.2.2
 have h3:n < L.getD i default:=by
  obtain ⟨j,hj,rfl⟩:=List.getElem_of_mem hn
  rw [List.length_take] at hj
  rw [List.getElem_take,List.getD_eq_getElem?_getD,List.getElem?_eq_getElem h]
  exact List.pairwise_iff_getElem.1 hL j i (by omega) h (by omega)
 intro q
 rw [q,h2] at h1
 omega
theorem carts_ok {l:List Kd} (hr:keysF l=true) (hl:l.length≤30) {part:Int} {L:List Int} (h16:L.length≤60):∀ i,i≤L.length→KOk (cartsTo l part (L.take i))∧(cartsTo l part (L.take i)).length≤30 * i
 | 0,_=>by rw [List.take_zero];exact ⟨kok_nil,Nat.le_refl _⟩
 | i+1,hi=>by
  obtain ⟨h1,h2⟩:=carts_ok hr hl h16 i (by omega)
  rw [cartsTo_snoc l part L (by omega)]
  have hf:=of_few (l:=l) (part:=part) (n:=L.getD i default)
  have ho:=keys_iff.1 hr
  refine ⟨addK_ok h1 (by omega) fun k hk=>?_,?_⟩
  ·have:=(of_mem hr hk).1
   exact ⟨ho.key k this,ho.cart k this⟩
  ·have:∀ (b o:List Kd),(addK o b).length≤o.length+b.length:=by
    intro b
    induction b with
    | nil=>intro o;exact Nat.le_refl _
    | cons k b ih=>
     intro o
     have h1:=ih (withK o k.1 k.2)
     have h2:=(with_len_le o k.1 k.2).2
     show (addK (withK o k.1 k.2) b).length≤_
     rw [List.length_cons];omega
   have:=this (ofF' l part (L.getD i default)) (cartsTo l part (L.take i))
   omega
theorem leaves_rise {l:List Int} (h:lvlF l 2=true):(leavesL l).Pairwise (fun a b=>a < b)∧(leavesL l).length≤16∧∀ n∈leavesL l,∃ p∈l,leafOf p=n:=by
 obtain ⟨h1,h2,_⟩:=lvl_iff.1 h
 refine ⟨?_,Nat.le_trans (leavesL_le l) (lvl_len h (by omega)),fun n hn=>?_⟩
 ·unfold leavesL
  rw [List.pairwise_map]
  refine List.Pairwise.imp_of_mem ?_ (h2.sublist List.filter_sublist)
  intro a b ha hb hab
  have h5:=level2 (h1 a (List.mem_filter.1 ha).1)
  have h6:=level2 (h1 b (List.mem_filter.1 hb).1)
  unfold leafOf
  rw [if_pos (by omega),if_pos (by omega)]
  omega
 ·unfold leavesL at hn
  obtain ⟨p,hp,rfl⟩:=List.mem_map.1 hn
  exact ⟨p,(List.mem_filter.1 hp).1,rfl⟩
theorem rightM_mk {m:Msg} (hk:m.kind≠7) (hb:bodyM m=true) (h1:1≤m.ses∧m.ses≤1099511627776) (h2:0≤m.part∧m.part≤7) (h3:1≤m.frm∧m.frm≤8) (h4:1≤m.to∧m.to≤8) (h5:m.frm≠m.to) (ho:m=ownM m):rightM m=true:=by
 unfold rightM sesF
 rw [hb,decide_eq_false hk,decide_eq_true h1.1,decide_eq_true h1.2,decide_eq_true h2.1,decide_eq_true (show m.part < 8 by omega),decide_eq_true h3,decide_eq_true h4,decide_eq_true h5,sameM_iff.2 ho]
 rfl
def ansF (U:List Nat) (m:Msg):Msg:=
 if m.kind=1 then (if row U 0=m.dig then ⟨4,m.to,m.frm,m.ses,m.part,zeroD,[],[],[]⟩ else ⟨5,m.to,m.frm,m.ses,m.part,zeroD,[0],digsL U (kidsL [0]),[]⟩)
 else if m.kind=2 then ⟨5,m.to,m.frm,m.ses,m.part,zeroD,m.pls,digsL U (kidsL m.pls),[]⟩
 else ⟨6,m.to,m.frm,m.ses,m.part,zeroD,m.pls,[],[]⟩
theorem hearAll_at {T:List Nat} {s t:Ses} {l:List Kd} {m:Msg} (h1:rightS s=true) (h2:keysF l=true) (h3:rightM m=true) (h4:s.round≠0) (h5:mineF s m=true) (h6:hearF T s m 6=(t,true)):hearAll T s l m 6=(t,m.kds,0):=by
 unfold hearAll
 rw [if_pos ⟨h1,h2,h3⟩,if_pos (by decide),if_pos ⟨h4,h5⟩,h6,if_pos rfl]
theorem mine_mk {s:Ses} {k:Int} {d:List Nat} {p:List Int} {g:List (List Nat)} {c:List Kd}:mineF s ⟨k,s.peer,s.self,s.id,s.part,d,p,g,c⟩=true:=by
 unfold mineF
 rw [decide_eq_true rfl,decide_eq_true rfl,decide_eq_true rfl,decide_eq_true rfl];rfl
theorem pls_nil {s:Ses} (h:rightS s=true) (h1:s.round=1):s.pls=[]:=by
 have hp:=(right_parts h).2.2.2.2.2.2.1
 unfold plsB at hp
 rw [if_pos (.inr h1)] at hp
 exact List.eq_nil_of_length_eq_zero (by have:=of_decide_eq_true hp;omega)
theorem nx_tree {T U:List Nat} {k f t s p:Int} {d:List Nat} {P:List Int} {c:List Kd}:nxS T ⟨k,f,t,s,p,d,P,digsL U (kidsL P),c⟩=unL T U P:=by
 unfold nxS unL
 dsimp only
 rw [unTo_tree T U P _ (Nat.le_refl _),List.take_length]
theorem wk1 {T U:List Nat} {s:Ses} {l:List Kd} (hs:rightS s=true) (hl:keysF l=true) (h1:s.round=1):rightM (saidF T s l)=true∧rightM (ansF U (saidF T s l))=true∧
  hearAll T s l (ansF U (saidF T s l)) 6=(if row U 0=row T 0∨unL T U [0]=[] then overS s else rndS s 2 (unL T U [0]) 6,[],0):=by
 obtain ⟨a1,a2,a3,a4,a5,a6,a7,a8,a9⟩:=right_parts hs
 have e:saidF T s l=⟨1,s.self,s.peer,s.id,s.part,row T 0,[],[],[]⟩:=by
  unfold saidF
  rw [if_pos h1,if_neg (by omega),h1,pls_nil hs h1]
 rw [e]
 refine ⟨rightM_mk (by dsimp only;decide) (by unfold bodyM;rw [if_pos (.inl rfl)]) a4 a5 a1 a2 a3 (by unfold ownM;simp),?_⟩
 unfold ansF
 dsimp only
 rw [if_pos rfl]
 by_cases q:row U 0=row T 0
 ·rw [if_pos q,if_pos (.inl q)]
  have hr:rightM ⟨4,s.peer,s.self,s.id,s.part,zeroD,[],[],[]⟩=true:=rightM_mk (by dsimp only;decide) (by unfold bodyM;rw [if_pos (.inr rfl)]) a4 a5 a2 a1 (fun q=>a3 q.symm) (by unfold ownM;simp)
  refine ⟨hr,?_⟩
  rw [hearAll_at (t:=overS s) hs hl hr (by omega) mine_mk (by unfold hearF;rw [if_pos (.inl ⟨h1,rfl⟩)])]
 ·rw [if_neg q]
  have hr:rightM ⟨5,s.peer,s.self,s.id,s.part,zeroD,[0],digsL U (kidsL [0]),[]⟩=true:=rightM_mk (by dsimp only;decide) (by
   unfold bodyM;dsimp only
   rw [if_neg (by omega),if_neg (by omega),if_neg (by omega),if_pos rfl,lvl_0,Bool.true_or,Bool.true_and]
   exact decide_eq_true (by unfold digsL;rw [List.length_map];rfl)) a4 a5 a2 a1 (fun q=>a3 q.symm) (by unfold ownM;simp)
  refine ⟨hr,?_⟩
  have ha:atS s=[0]:=by unfold atS;rw [if_pos h1]
  rw [hearAll_at (t:=if unL T U [0]=[] then overS s else rndS s 2 (unL T U [0]) 6) hs hl hr (by omega) mine_mk (by
   unfold hearF
   rw [if_neg (fun z=>by rcases z with ⟨_,z⟩ | ⟨_,z,_⟩;exact absurd z (show ¬ (5:Int)=4 by decide);exact absurd z (show ¬ (5:Int)=6 by decide)),if_pos ⟨rfl,.inl h1,ha.symm⟩,nx_tree,h1];rfl)]
  by_cases n:unL T U [0]=[]
  ·rw [if_pos n,if_pos (.inr n)]
  ·rw [if_neg n,if_neg (by rintro (z|z);exact q z;exact n z)]
theorem wk2 {T U:List Nat} {s:Ses} {l:List Kd} (hs:rightS s=true) (hl:keysF l=true) (h2:s.round=2):rightM (saidF T s l)=true∧rightM (ansF U (saidF T s l))=true∧
  hearAll T s l (ansF U (saidF T s l)) 6=(if unL T U s.pls=[] then overS s else rndS s 3 (unL T U s.pls) 6,[],0):=by
 obtain ⟨a1,a2,a3,a4,a5,a6,a7,a8,a9⟩:=right_parts hs
 have hv:lvlF s.pls 1=true:=by
  unfold plsB at a7
  rw [if_neg (by omega),h2] at a7
  exact a7
 have e:saidF T s l=⟨2,s.self,s.peer,s.id,s.part,zeroD,s.pls,[],[]⟩:=by
  unfold saidF
  rw [if_neg (by omega),if_neg (by omega),h2]
 rw [e]
 refine ⟨rightM_mk (by dsimp only;decide) (by unfold bodyM;dsimp only;rw [if_neg (by omega),if_pos rfl];exact hv) a4 a5 a1 a2 a3 (by unfold ownM;simp),?_⟩
 unfold ansF
 dsimp only
 rw [if_neg (by decide),if_pos rfl]
 have hr:rightM ⟨5,s.peer,s.self,s.id,s.part,zeroD,s.pls,digsL U (kidsL s.pls),[]⟩=true:=rightM_mk (by dsimp only;decide) (by
  unfold bodyM;dsimp only
  rw [if_neg (by omega),if_neg (by omega),if_neg (by omega),if_pos rfl,hv,Bool.or_true,Bool.true_and]
  have:=lvl_kids hv (.inr rfl)
  exact decide_eq_true (by unfold digsL;rw [List.length_map];omega)) a4 a5 a2 a1 (fun q=>a3 q.symm) (by unfold ownM;simp)
 refine ⟨hr,?_⟩
 have ha:atS s=s.pls:=by unfold atS;rw [if_neg (by omega)]
 rw [hearAll_at (t:=if unL T U s.pls=[] then overS s else rndS s 3 (unL T U s.pls) 6) hs hl hr (by omega) mine_mk (by
  unfold hearF
  rw [if_neg (fun z=>by rcases z with ⟨_,z⟩ | ⟨_,z,_⟩;exact absurd z (show ¬ (5:Int)=4 by decide);exact absurd z (show ¬ (5:Int)=6 by decide)),if_pos ⟨rfl,.inr h2,ha.symm⟩,nx_tree,h2];rfl)]
theorem carts_within {l:List Kd} (hr:keysF l=true) (hl:l.length≤30) {part:Int} {a:List Int} (h:lvlF a 2=true) {k f t s:Int} {d:List Nat} {g:List (List Nat)}:withinM ⟨k,f,t,s,part,d,a,g,cartsF l part a⟩=true:=by
 obtain ⟨h1,h2,h3⟩:=leaves_rise h
 have hc:=carts_ok hr hl (part:=part) (L:=leavesL a) (by omega) (leavesL a).length (Nat.le_refl _)
 rw [List.take_length] at hc
 unfold withinM
 dsimp only
 rw [show keysF (cartsF l part a)=true from keys_iff.2 hc.1,Bool.true_and,Bool.not_eq_true',List.any_eq_false]
 intro e he
 have he':e∈cartsTo l part ((leavesL a).take (leavesL a).length):=by rw [List.take_length];exact he
 obtain ⟨n,hn,hm⟩:=mem_carts (leavesL a).length (Nat.le_refl _) he'
 rw [List.take_length] at hn
 obtain ⟨p,hp,rfl⟩:=h3 n hn
 obtain ⟨q1,q2,q3,q4⟩:=of_mem hr hm
 unfold wrongK
 dsimp only
 rw [q2,decide_eq_false (fun z=>z q3)]
 have:(a.any (atLeaf e))=true:=List.any_eq_true.2 ⟨p,hp,by unfold atLeaf;exact decide_eq_true q4.symm⟩
 rw [this];decide
theorem wk3 {T U:List Nat} {s:Ses} {l:List Kd} (hs:rightS s=true) (hl:keysF l=true) (h30:l.length≤30) (h3:s.round=3):rightM (saidF T s l)=true∧rightM (ansF U (saidF T s l))=true∧hearAll T s l (ansF U (saidF T s l)) 6=(overS s,[],0):=by
 obtain ⟨a1,a2,a3,a4,a5,a6,a7,a8,a9⟩:=right_parts hs
 have hv:lvlF s.pls 2=true:=by
  unfold plsB at a7
  rw [if_neg (by omega),h3] at a7
  exact a7
 have e:saidF T s l=⟨3,s.self,s.peer,s.id,s.part,zeroD,s.pls,[],cartsF l s.part s.pls⟩:=by
  unfold saidF
  rw [if_neg (by omega),if_pos h3,h3]
 rw [e]
 refine ⟨rightM_mk (by dsimp only;decide) (by unfold bodyM;dsimp only;rw [if_neg (by omega),if_neg (by omega),if_pos (.inl rfl),hv,carts_within hl h30 hv];rfl) a4 a5 a1 a2 a3 (by unfold ownM;simp),?_⟩
 unfold ansF
 dsimp only
 rw [if_neg (by decide),if_neg (by decide)]
 have hr:rightM ⟨6,s.peer,s.self,s.id,s.part,zeroD,s.pls,[],[]⟩=true:=rightM_mk (by dsimp only;decide) (by
  unfold bodyM;dsimp only
  rw [if_neg (by omega),if_neg (by omega),if_pos (.inr rfl),hv]
  unfold withinM
  rw [show keysF []=true from keys_iff.2 kok_nil];rfl) a4 a5 a2 a1 (fun q=>a3 q.symm) (by unfold ownM;simp)
 refine ⟨hr,?_⟩
 rw [hearAll_at (t:=overS s) hs hl hr (by omega) mine_mk (by unfold hearF;rw [if_pos (.inr ⟨h3,rfl,rfl⟩)])]
end Go.Proofs.YtkgploeegbmofaaGreat.Wi
